/- Texts of this claim, joined: Px2, Px1, Px10, Px11, G2, V1. -/
import Derived.Test.YtlbbjdggebgabaaRDM3
import Derived.Test.YtlbbjdggebgabaaRDM4
import Derived.Test.YtlbbjdggebgabaaRDM5
section
namespace Go.Proofs.Ytlbbjdggebgabaa.P
open Go.RowKit Go.Proofs.YtlbbjdggebgabaaW.PrintWords Go.Proofs.YtlbbjdggebgabaaW.PrintLast Go.Proofs.YtlbbjdggebgabaaW.PrintMore
attribute [local go_sem] max2_int min2_int max_two min_two max_three min_three max_four min_four   -- for this text's walks alone
set_option linter.unusedVariables false
set_option linter.unusedSimpArgs false

mutual
def jobshelllaw46_few.j0 : Nat → Bool → ByteArray → Int → Int → List ByteArray → List (S23) → List (S23) → ByteArray → Int → Int → ByteArray → Option (Bool)
  | 0, _, _, _, _, _, _, _, _, _, _, _ => none
  | k + 1, x22, x102000, x102001, x102002, x102003, x102004, x102005, x102006, x102007, x102008, x102009 => if x22 = true then (some false) else (jobshelllaw46_few.l0 k (wrap64 ((wrap64 ((x102000.size : Int) + (x102009.size : Int))) + (x102006.size : Int))) 0 x102000 x102001 x102002 x102003 x102004 x102005 x102006 x102007 x102008 x102009)
def jobshelllaw46_few.l0 : Nat → Int → Int → ByteArray → Int → Int → List ByteArray → List (S23) → List (S23) → ByteArray → Int → Int → ByteArray → Option (Bool)
  | 0, _, _, _, _, _, _, _, _, _, _, _, _ => none
  | k + 1, x3, x4, x102000, x102001, x102002, x102003, x102004, x102005, x102006, x102007, x102008, x102009 => if x4 < (x102003.length : Int) then (if 0 ≤ x4 then (jobshelllaw46_few.l0 k (wrap64 (x3 + ((rdOf ByteArray.empty x102003 x4).size : Int))) (wrap64 (x4 + 1)) x102000 x102001 x102002 x102003 x102004 x102005 x102006 x102007 x102008 x102009) else (none)) else (jobshelllaw46_few.l1 k x3 0 x102000 x102001 x102002 x102003 x102004 x102005 x102006 x102007 x102008 x102009)
def jobshelllaw46_few.l1 : Nat → Int → Int → ByteArray → Int → Int → List ByteArray → List (S23) → List (S23) → ByteArray → Int → Int → ByteArray → Option (Bool)
  | 0, _, _, _, _, _, _, _, _, _, _, _, _ => none
  | k + 1, x3, x5, x102000, x102001, x102002, x102003, x102004, x102005, x102006, x102007, x102008, x102009 => if x5 < (x102004.length : Int) then (if 0 ≤ x5 then (jobshelllaw46_few.l1 k (wrap64 (x3 + (((rd_T23 x102004 x5).f0).size : Int))) (wrap64 (x5 + 1)) x102000 x102001 x102002 x102003 x102004 x102005 x102006 x102007 x102008 x102009) else (none)) else (jobshelllaw46_few.l2 k x3 0 x102000 x102001 x102002 x102003 x102004 x102005 x102006 x102007 x102008 x102009)
def jobshelllaw46_few.l2 : Nat → Int → Int → ByteArray → Int → Int → List ByteArray → List (S23) → List (S23) → ByteArray → Int → Int → ByteArray → Option (Bool)
  | 0, _, _, _, _, _, _, _, _, _, _, _, _ => none
  | k + 1, x3, x6, x102000, x102001, x102002, x102003, x102004, x102005, x102006, x102007, x102008, x102009 => if x6 < (x102005.length : Int) then (if 0 ≤ x6 then (jobshelllaw46_few.l2 k (wrap64 (x3 + (((rd_T23 x102005 x6).f0).size : Int))) (wrap64 (x6 + 1)) x102000 x102001 x102002 x102003 x102004 x102005 x102006 x102007 x102008 x102009) else (none)) else (some (decide (x3 ≤ 30000)))
end
def jobshelllaw46_few.f (k : Nat) (a0_0 : ByteArray) (a0_1 : Int) (a0_2 : Int) (l0_3 : List ByteArray) (l0_4 : List (S23)) (l0_5 : List (S23)) (a0_6 : ByteArray) (a0_7 : Int) (a0_8 : Int) (a0_9 : ByteArray) : Option (Bool) := if (l0_3.length : Int) > 70 then (jobshelllaw46_few.j0 k true a0_0 a0_1 a0_2 l0_3 l0_4 l0_5 a0_6 a0_7 a0_8 a0_9) else (if (l0_4.length : Int) > 70 then (jobshelllaw46_few.j0 k true a0_0 a0_1 a0_2 l0_3 l0_4 l0_5 a0_6 a0_7 a0_8 a0_9) else (jobshelllaw46_few.j0 k (decide ((l0_5.length : Int) > 70)) a0_0 a0_1 a0_2 l0_3 l0_4 l0_5 a0_6 a0_7 a0_8 a0_9))
set_option maxHeartbeats 8000000 in
set_option maxRecDepth 100000 in
theorem jobshelllaw46_few.calls (k : Nat) (a0_0 : ByteArray) (a0_1 : Int) (a0_2 : Int) (A0_3 : Option Addr) (c0_3 : Nat) (l0_3 : List ByteArray) (A0_4 : Option Addr) (c0_4 : Nat) (l0_4 : List (S23)) (A0_5 : Option Addr) (c0_5 : Nat) (l0_5 : List (S23)) (a0_6 : ByteArray) (a0_7 : Int) (a0_8 : Int) (a0_9 : ByteArray) (r : Bool) (w : World) (hr0_3 : Kd.C Kd.string w A0_3 l0_3.length l0_3) (hc0_3 : l0_3.length ≤ c0_3) (hr0_4 : Kd.C k23 w A0_4 l0_4.length l0_4) (hc0_4 : l0_4.length ≤ c0_4) (hr0_5 : Kd.C k23 w A0_5 l0_5.length l0_5) (hc0_5 : l0_5.length ≤ c0_5) (h : jobshelllaw46_few.f k a0_0 a0_1 a0_2 l0_3 l0_4 l0_5 a0_6 a0_7 a0_8 a0_9 = some r) :
    Calls Try.prog 9 #[.agg #[.string a0_0, .int .i64 a0_1, .int .i64 a0_2, .slice A0_3 l0_3.length c0_3, .slice A0_4 l0_4.length c0_4, .slice A0_5 l0_5.length c0_5, .string a0_6, .int .i64 a0_7, .int .i64 a0_8, .string a0_9]] w fun e w' => e = .returned (.bool r) ∧ Below w.heap.size w w' := by
  have hu27 := Try.underlying27
  have HR0_3 := Aside0.mk hr0_3
  have HC0_3 := Aside0.mk hc0_3
  clear hr0_3 hc0_3
  have HR0_4 := Aside0.mk hr0_4
  have HC0_4 := Aside0.mk hc0_4
  clear hr0_4 hc0_4
  have HR0_5 := Aside0.mk hr0_5
  have HC0_5 := Aside0.mk hc0_5
  clear hr0_5 hc0_5
  have HB := Aside0.mk (Below.refl w.heap.size w)
  have H : (if (l0_3.length : Int) > 70 then (jobshelllaw46_few.j0 k true a0_0 a0_1 a0_2 l0_3 l0_4 l0_5 a0_6 a0_7 a0_8 a0_9) else (if (l0_4.length : Int) > 70 then (jobshelllaw46_few.j0 k true a0_0 a0_1 a0_2 l0_3 l0_4 l0_5 a0_6 a0_7 a0_8 a0_9) else (jobshelllaw46_few.j0 k (decide ((l0_5.length : Int) > 70)) a0_0 a0_1 a0_2 l0_3 l0_4 l0_5 a0_6 a0_7 a0_8 a0_9))) = some r := h
  clear h
  have HC2 := Aside0.mk H
  clear H
  go_enter Try.func9, Try.ntmps9
  go_upto_region 1 with (first | ((with_reducible refine gate_dst (N := 1) rfl ?_); (try (refine gate_guard (by rfl) ?_; dsimp only)); refine box_event ?hg (N := 1) ?hd (cs := #[.string a0_0, .int .i64 a0_1, .int .i64 a0_2, .slice A0_3 l0_3.length c0_3, .slice A0_4 l0_4.length c0_4, .slice A0_5 l0_5.length c0_5, .string a0_6, .int .i64 a0_7, .int .i64 a0_8, .string a0_9]) (t := 27) ?hr ?_; (case hd => rfl); (case hg => rfl); (case hr => first | (go_simp; done) | (go_simp; rfl)); intro gb101 hg w3 hbox hb; have n0_ := Aside0.mk (below_step (by repeat (first | (with_reducible first | exact HB.out | apply below_alloc | apply pw_below_drewN | apply below_drew1) | exact HB.out)) hb); have n1_ := Aside0.mk (hbox); have n2_ := Aside0.mk ((by rw [hg]; exact (below_size (by repeat (first | (with_reducible first | exact HB.out | apply below_alloc | apply pw_below_drewN | apply below_drew1) | exact HB.out))) : w.heap.size ≤ gb101)); have n3_ := Aside0.mk ((by rw [hg]; exact (below_size (by repeat (first | (with_reducible first | exact HB.out | apply below_alloc | apply pw_below_drewN | apply below_drew1) | exact HB.out))) : w.heap.size ≤ gb101)); clear HB; have HB := n0_; have BK101 := n1_; have GW101 := n2_; have GE101 := n3_; clear n0_ n1_ n2_ n3_; clear hb hbox hg))
  (try simp only [Act.put, List.setIfInBounds_toArray, List.set_cons_zero, List.set_cons_succ])
  go_cut [22] (fun v22 wc => ∃ (kq : Nat) (x22_1 : Bool), v22 = .bool x22_1 ∧ Aside0 (jobshelllaw46_few.j0 kq x22_1 a0_0 a0_1 a0_2 l0_3 l0_4 l0_5 a0_6 a0_7 a0_8 a0_9 = some r) ∧ Aside0 (kq ≤ k) ∧ Aside0 (wc.heap[gb101]? = some (.cells #[.string a0_0, .int .i64 a0_1, .int .i64 a0_2, (.slice A0_3 l0_3.length c0_3), (.slice A0_4 l0_4.length c0_4), (.slice A0_5 l0_5.length c0_5), .string a0_6, .int .i64 a0_7, .int .i64 a0_8, .string a0_9] 27 (0, 0))) ∧ Aside0 (Below w.heap.size w wc))
  case first =>
    have H := HC2.out
    clear HC2
    by_cases c4 : (l0_3.length : Int) > 70
    · rw [if_pos c4] at H
      have c4b0 : decide (70 < (l0_3.length : Int)) = true := decide_eq_true c4
      have c4b1 : decide (70 < l0_3.length) = true := decide_eq_true (by omega)
      clear c4
      (first | rw [c4b0] | (simp only [i64_w, i32_w]; rw [c4b0]) | skip)
      have H' := Aside0.mk H
      clear H
      have hcz5_0 : w3.cell? ⟨gb101, 0, none⟩ = some (.string a0_0) := (blk_cell BK101.out 0).trans rfl
      have hcz5_1 : w3.cell? ⟨gb101, 1, none⟩ = some (.int .i64 a0_1) := (blk_cell BK101.out 1).trans rfl
      have hcz5_2 : w3.cell? ⟨gb101, 2, none⟩ = some (.int .i64 a0_2) := (blk_cell BK101.out 2).trans rfl
      have hcz5_3 : w3.cell? ⟨gb101, 3, none⟩ = some (.slice A0_3 l0_3.length c0_3) := (blk_cell BK101.out 3).trans rfl
      have hcz5_4 : w3.cell? ⟨gb101, 4, none⟩ = some (.slice A0_4 l0_4.length c0_4) := (blk_cell BK101.out 4).trans rfl
      have hcz5_5 : w3.cell? ⟨gb101, 5, none⟩ = some (.slice A0_5 l0_5.length c0_5) := (blk_cell BK101.out 5).trans rfl
      have hcz5_6 : w3.cell? ⟨gb101, 6, none⟩ = some (.string a0_6) := (blk_cell BK101.out 6).trans rfl
      have hcz5_7 : w3.cell? ⟨gb101, 7, none⟩ = some (.int .i64 a0_7) := (blk_cell BK101.out 7).trans rfl
      have hcz5_8 : w3.cell? ⟨gb101, 8, none⟩ = some (.int .i64 a0_8) := (blk_cell BK101.out 8).trans rfl
      have hcz5_9 : w3.cell? ⟨gb101, 9, none⟩ = some (.string a0_9) := (blk_cell BK101.out 9).trans rfl
      have hfz5_0 := blk_frozen BK101.out 0
      have hfz5_1 := blk_frozen BK101.out 1
      have hfz5_2 := blk_frozen BK101.out 2
      have hfz5_3 := blk_frozen BK101.out 3
      have hfz5_4 := blk_frozen BK101.out 4
      have hfz5_5 := blk_frozen BK101.out 5
      have hfz5_6 := blk_frozen BK101.out 6
      have hfz5_7 := blk_frozen BK101.out 7
      have hfz5_8 := blk_frozen BK101.out 8
      have hfz5_9 := blk_frozen BK101.out 9
      go_wp2
      go_meet
      case rel => exact ⟨_, (true), (by first | rfl | (simp; done) | (simp [*]; done)), H', ⟨by first | omega | exact Nat.le_refl _⟩, ⟨by (with_reducible repeat (first | refine blk_drewN ?_ _ | refine blk_drew ?_ | refine blk_alloc ?_ _)); exact BK101.out⟩, ⟨by repeat (first | (with_reducible first | exact HB.out | apply below_alloc | apply pw_below_drewN | apply below_drew1 | refine below_set ?_ GE101.out) | exact HB.out)⟩⟩
    · rw [if_neg c4] at H
      have c4b0 : decide (70 < (l0_3.length : Int)) = false := decide_eq_false c4
      have c4b1 : decide (70 < l0_3.length) = false := decide_eq_false (by omega)
      clear c4
      (first | rw [c4b0] | (simp only [i64_w, i32_w]; rw [c4b0]) | skip)
      by_cases c6 : (l0_4.length : Int) > 70
      · rw [if_pos c6] at H
        have c6b0 : decide (70 < (l0_4.length : Int)) = true := decide_eq_true c6
        have c6b1 : decide (70 < l0_4.length) = true := decide_eq_true (by omega)
        clear c6
        have H' := Aside0.mk H
        clear H
        have hcz7_0 : w3.cell? ⟨gb101, 0, none⟩ = some (.string a0_0) := (blk_cell BK101.out 0).trans rfl
        have hcz7_1 : w3.cell? ⟨gb101, 1, none⟩ = some (.int .i64 a0_1) := (blk_cell BK101.out 1).trans rfl
        have hcz7_2 : w3.cell? ⟨gb101, 2, none⟩ = some (.int .i64 a0_2) := (blk_cell BK101.out 2).trans rfl
        have hcz7_3 : w3.cell? ⟨gb101, 3, none⟩ = some (.slice A0_3 l0_3.length c0_3) := (blk_cell BK101.out 3).trans rfl
        have hcz7_4 : w3.cell? ⟨gb101, 4, none⟩ = some (.slice A0_4 l0_4.length c0_4) := (blk_cell BK101.out 4).trans rfl
        have hcz7_5 : w3.cell? ⟨gb101, 5, none⟩ = some (.slice A0_5 l0_5.length c0_5) := (blk_cell BK101.out 5).trans rfl
        have hcz7_6 : w3.cell? ⟨gb101, 6, none⟩ = some (.string a0_6) := (blk_cell BK101.out 6).trans rfl
        have hcz7_7 : w3.cell? ⟨gb101, 7, none⟩ = some (.int .i64 a0_7) := (blk_cell BK101.out 7).trans rfl
        have hcz7_8 : w3.cell? ⟨gb101, 8, none⟩ = some (.int .i64 a0_8) := (blk_cell BK101.out 8).trans rfl
        have hcz7_9 : w3.cell? ⟨gb101, 9, none⟩ = some (.string a0_9) := (blk_cell BK101.out 9).trans rfl
        have hfz7_0 := blk_frozen BK101.out 0
        have hfz7_1 := blk_frozen BK101.out 1
        have hfz7_2 := blk_frozen BK101.out 2
        have hfz7_3 := blk_frozen BK101.out 3
        have hfz7_4 := blk_frozen BK101.out 4
        have hfz7_5 := blk_frozen BK101.out 5
        have hfz7_6 := blk_frozen BK101.out 6
        have hfz7_7 := blk_frozen BK101.out 7
        have hfz7_8 := blk_frozen BK101.out 8
        have hfz7_9 := blk_frozen BK101.out 9
        go_wp2
        go_meet
        case rel => exact ⟨_, (true), (by first | rfl | (simp; done) | (simp [*]; done)), H', ⟨by first | omega | exact Nat.le_refl _⟩, ⟨by (with_reducible repeat (first | refine blk_drewN ?_ _ | refine blk_drew ?_ | refine blk_alloc ?_ _)); exact BK101.out⟩, ⟨by repeat (first | (with_reducible first | exact HB.out | apply below_alloc | apply pw_below_drewN | apply below_drew1 | refine below_set ?_ GE101.out) | exact HB.out)⟩⟩
      · rw [if_neg c6] at H
        have c6b0 : decide (70 < (l0_4.length : Int)) = false := decide_eq_false c6
        have c6b1 : decide (70 < l0_4.length) = false := decide_eq_false (by omega)
        clear c6
        have H' := Aside0.mk H
        clear H
        have hcz8_0 : w3.cell? ⟨gb101, 0, none⟩ = some (.string a0_0) := (blk_cell BK101.out 0).trans rfl
        have hcz8_1 : w3.cell? ⟨gb101, 1, none⟩ = some (.int .i64 a0_1) := (blk_cell BK101.out 1).trans rfl
        have hcz8_2 : w3.cell? ⟨gb101, 2, none⟩ = some (.int .i64 a0_2) := (blk_cell BK101.out 2).trans rfl
        have hcz8_3 : w3.cell? ⟨gb101, 3, none⟩ = some (.slice A0_3 l0_3.length c0_3) := (blk_cell BK101.out 3).trans rfl
        have hcz8_4 : w3.cell? ⟨gb101, 4, none⟩ = some (.slice A0_4 l0_4.length c0_4) := (blk_cell BK101.out 4).trans rfl
        have hcz8_5 : w3.cell? ⟨gb101, 5, none⟩ = some (.slice A0_5 l0_5.length c0_5) := (blk_cell BK101.out 5).trans rfl
        have hcz8_6 : w3.cell? ⟨gb101, 6, none⟩ = some (.string a0_6) := (blk_cell BK101.out 6).trans rfl
        have hcz8_7 : w3.cell? ⟨gb101, 7, none⟩ = some (.int .i64 a0_7) := (blk_cell BK101.out 7).trans rfl
        have hcz8_8 : w3.cell? ⟨gb101, 8, none⟩ = some (.int .i64 a0_8) := (blk_cell BK101.out 8).trans rfl
        have hcz8_9 : w3.cell? ⟨gb101, 9, none⟩ = some (.string a0_9) := (blk_cell BK101.out 9).trans rfl
        have hfz8_0 := blk_frozen BK101.out 0
        have hfz8_1 := blk_frozen BK101.out 1
        have hfz8_2 := blk_frozen BK101.out 2
        have hfz8_3 := blk_frozen BK101.out 3
        have hfz8_4 := blk_frozen BK101.out 4
        have hfz8_5 := blk_frozen BK101.out 5
        have hfz8_6 := blk_frozen BK101.out 6
        have hfz8_7 := blk_frozen BK101.out 7
        have hfz8_8 := blk_frozen BK101.out 8
        have hfz8_9 := blk_frozen BK101.out 9
        go_wp2
        go_meet
        case rel => exact ⟨_, (decide ((l0_5.length : Int) > 70)), (by first | rfl | (simp; done) | (simp [*]; done)), H', ⟨by first | omega | exact Nat.le_refl _⟩, ⟨by (with_reducible repeat (first | refine blk_drewN ?_ _ | refine blk_drew ?_ | refine blk_alloc ?_ _)); exact BK101.out⟩, ⟨by repeat (first | (with_reducible first | exact HB.out | apply below_alloc | apply pw_below_drewN | apply below_drew1 | refine below_set ?_ GE101.out) | exact HB.out)⟩⟩
  case rest =>
    clear HC2
    try clear p2
    try clear c4
    try clear c4b0
    try clear c4b1
    try clear c6
    try clear c6b0
    try clear c6b1
    try clear hcz5_0
    try clear hcz5_1
    try clear hcz5_2
    try clear hcz5_3
    try clear hcz5_4
    try clear hcz5_5
    try clear hcz5_6
    try clear hcz5_7
    try clear hcz5_8
    try clear hcz5_9
    try clear hcz7_0
    try clear hcz7_1
    try clear hcz7_2
    try clear hcz7_3
    try clear hcz7_4
    try clear hcz7_5
    try clear hcz7_6
    try clear hcz7_7
    try clear hcz7_8
    try clear hcz7_9
    try clear hcz8_0
    try clear hcz8_1
    try clear hcz8_2
    try clear hcz8_3
    try clear hcz8_4
    try clear hcz8_5
    try clear hcz8_6
    try clear hcz8_7
    try clear hcz8_8
    try clear hcz8_9
    try clear hfz5_0
    try clear hfz5_1
    try clear hfz5_2
    try clear hfz5_3
    try clear hfz5_4
    try clear hfz5_5
    try clear hfz5_6
    try clear hfz5_7
    try clear hfz5_8
    try clear hfz5_9
    try clear hfz7_0
    try clear hfz7_1
    try clear hfz7_2
    try clear hfz7_3
    try clear hfz7_4
    try clear hfz7_5
    try clear hfz7_6
    try clear hfz7_7
    try clear hfz7_8
    try clear hfz7_9
    try clear hfz8_0
    try clear hfz8_1
    try clear hfz8_2
    try clear hfz8_3
    try clear hfz8_4
    try clear hfz8_5
    try clear hfz8_6
    try clear hfz8_7
    try clear hfz8_8
    try clear hfz8_9
    obtain ⟨kq, x22_1, rfl, HA, HJ1, BK101, HB⟩ := hcut
    cases kq with
    | zero => exact absurd HA.out (by simp [jobshelllaw46_few.j0])
    | succ kj1 =>
      have H := HA.out
      clear HA
      simp only [jobshelllaw46_few.j0] at H
      by_cases c9 : x22_1 = true
      · subst c9
        have H1 : (some false) = some r := by rw [if_pos rfl] at H; exact H
        clear H
        have H := H1
        clear H1
        obtain rfl := Option.some.inj H
        go_wp2
        go_ret
        exact ⟨by first | rfl | (simp [errW_none, errW_some] <;> rfl) | (simp [*, errW_none, errW_some] <;> rfl), by repeat (first | (with_reducible first | exact HB.out | apply below_alloc | apply pw_below_drewN | apply below_drew1 | refine below_set ?_ GE101.out) | exact HB.out)⟩
      · replace c9 := Bool.eq_false_iff.mpr c9
        subst c9
        have H1 : (jobshelllaw46_few.l0 kj1 (wrap64 ((wrap64 ((a0_0.size : Int) + (a0_9.size : Int))) + (a0_6.size : Int))) 0 a0_0 a0_1 a0_2 l0_3 l0_4 l0_5 a0_6 a0_7 a0_8 a0_9) = some r := by rw [if_neg (show ¬ (false = true) by decide)] at H; exact H
        clear H
        have H := H1
        clear H1
        have H' := Aside0.mk H
        clear H
        have hcz10_0 : wc.cell? ⟨gb101, 0, none⟩ = some (.string a0_0) := (blk_cell BK101.out 0).trans rfl
        have hcz10_1 : wc.cell? ⟨gb101, 1, none⟩ = some (.int .i64 a0_1) := (blk_cell BK101.out 1).trans rfl
        have hcz10_2 : wc.cell? ⟨gb101, 2, none⟩ = some (.int .i64 a0_2) := (blk_cell BK101.out 2).trans rfl
        have hcz10_3 : wc.cell? ⟨gb101, 3, none⟩ = some (.slice A0_3 l0_3.length c0_3) := (blk_cell BK101.out 3).trans rfl
        have hcz10_4 : wc.cell? ⟨gb101, 4, none⟩ = some (.slice A0_4 l0_4.length c0_4) := (blk_cell BK101.out 4).trans rfl
        have hcz10_5 : wc.cell? ⟨gb101, 5, none⟩ = some (.slice A0_5 l0_5.length c0_5) := (blk_cell BK101.out 5).trans rfl
        have hcz10_6 : wc.cell? ⟨gb101, 6, none⟩ = some (.string a0_6) := (blk_cell BK101.out 6).trans rfl
        have hcz10_7 : wc.cell? ⟨gb101, 7, none⟩ = some (.int .i64 a0_7) := (blk_cell BK101.out 7).trans rfl
        have hcz10_8 : wc.cell? ⟨gb101, 8, none⟩ = some (.int .i64 a0_8) := (blk_cell BK101.out 8).trans rfl
        have hcz10_9 : wc.cell? ⟨gb101, 9, none⟩ = some (.string a0_9) := (blk_cell BK101.out 9).trans rfl
        have hfz10_0 := blk_frozen BK101.out 0
        have hfz10_1 := blk_frozen BK101.out 1
        have hfz10_2 := blk_frozen BK101.out 2
        have hfz10_3 := blk_frozen BK101.out 3
        have hfz10_4 := blk_frozen BK101.out 4
        have hfz10_5 := blk_frozen BK101.out 5
        have hfz10_6 := blk_frozen BK101.out 6
        have hfz10_7 := blk_frozen BK101.out 7
        have hfz10_8 := blk_frozen BK101.out 8
        have hfz10_9 := blk_frozen BK101.out 9
        go_wp2
        go_loopg [3, 4] kj1 (fun kq v3 v4 w' => ∃ (x3_2 : Int) (x4_2 : Int), v3 = .int .i64 x3_2 ∧ v4 = .int .i64 x4_2 ∧ Aside0 (jobshelllaw46_few.l0 kq x3_2 x4_2 a0_0 a0_1 a0_2 l0_3 l0_4 l0_5 a0_6 a0_7 a0_8 a0_9 = some r) ∧ Aside0 (kq ≤ kj1) ∧ Aside0 (w'.heap[gb101]? = some (.cells #[.string a0_0, .int .i64 a0_1, .int .i64 a0_2, (.slice A0_3 l0_3.length c0_3), (.slice A0_4 l0_4.length c0_4), (.slice A0_5 l0_5.length c0_5), .string a0_6, .int .i64 a0_7, .int .i64 a0_8, .string a0_9] 27 (0, 0))) ∧ Aside0 (Below w.heap.size w w'))
        case atStart => exact ⟨(wrap64 ((wrap64 ((a0_0.size : Int) + (a0_9.size : Int))) + (a0_6.size : Int))), (0), (by first | rfl | (simp; done) | (simp [*]; done)), (by first | rfl | (simp; done) | (simp [*]; done)), H', ⟨Nat.le_refl _⟩, ⟨by (with_reducible repeat (first | refine blk_drewN ?_ _ | refine blk_drew ?_ | refine blk_alloc ?_ _)); exact BK101.out⟩, ⟨by repeat (first | (with_reducible first | exact HB.out | apply below_alloc | apply pw_below_drewN | apply below_drew1 | refine below_set ?_ GE101.out) | exact HB.out)⟩⟩
        case round =>
          clear H'
          try clear p2
          try clear c4
          try clear c4b0
          try clear c4b1
          try clear c6
          try clear c6b0
          try clear c6b1
          try clear p6
          try clear c9
          try clear hcz10_0
          try clear hcz10_1
          try clear hcz10_2
          try clear hcz10_3
          try clear hcz10_4
          try clear hcz10_5
          try clear hcz10_6
          try clear hcz10_7
          try clear hcz10_8
          try clear hcz10_9
          try clear hcz5_0
          try clear hcz5_1
          try clear hcz5_2
          try clear hcz5_3
          try clear hcz5_4
          try clear hcz5_5
          try clear hcz5_6
          try clear hcz5_7
          try clear hcz5_8
          try clear hcz5_9
          try clear hcz7_0
          try clear hcz7_1
          try clear hcz7_2
          try clear hcz7_3
          try clear hcz7_4
          try clear hcz7_5
          try clear hcz7_6
          try clear hcz7_7
          try clear hcz7_8
          try clear hcz7_9
          try clear hcz8_0
          try clear hcz8_1
          try clear hcz8_2
          try clear hcz8_3
          try clear hcz8_4
          try clear hcz8_5
          try clear hcz8_6
          try clear hcz8_7
          try clear hcz8_8
          try clear hcz8_9
          try clear hfz10_0
          try clear hfz10_1
          try clear hfz10_2
          try clear hfz10_3
          try clear hfz10_4
          try clear hfz10_5
          try clear hfz10_6
          try clear hfz10_7
          try clear hfz10_8
          try clear hfz10_9
          try clear hfz5_0
          try clear hfz5_1
          try clear hfz5_2
          try clear hfz5_3
          try clear hfz5_4
          try clear hfz5_5
          try clear hfz5_6
          try clear hfz5_7
          try clear hfz5_8
          try clear hfz5_9
          try clear hfz7_0
          try clear hfz7_1
          try clear hfz7_2
          try clear hfz7_3
          try clear hfz7_4
          try clear hfz7_5
          try clear hfz7_6
          try clear hfz7_7
          try clear hfz7_8
          try clear hfz7_9
          try clear hfz8_0
          try clear hfz8_1
          try clear hfz8_2
          try clear hfz8_3
          try clear hfz8_4
          try clear hfz8_5
          try clear hfz8_6
          try clear hfz8_7
          try clear hfz8_8
          try clear hfz8_9
          try clear p2
          obtain ⟨x3_2, x4_2, rfl, rfl, HA, HK2, BK101, HB⟩ := hrel
          cases gk with
          | zero => exact absurd HA.out (by simp [jobshelllaw46_few.l0])
          | succ k2 =>
            have H := HA.out
            clear HA
            simp only [jobshelllaw46_few.l0] at H
            by_cases c11 : x4_2 < (l0_3.length : Int)
            · rw [if_pos c11] at H
              have c11b0 : decide (x4_2 < (l0_3.length : Int)) = true := decide_eq_true c11
              clear c11
              by_cases c12 : 0 ≤ x4_2
              · rw [if_pos c12] at H
                have c12b0 : decide (0 ≤ x4_2) = true := decide_eq_true c12
                clear c12
                have H' := Aside0.mk H
                clear H
                have hcz13_0 : wr.cell? ⟨gb101, 0, none⟩ = some (.string a0_0) := (blk_cell BK101.out 0).trans rfl
                have hcz13_1 : wr.cell? ⟨gb101, 1, none⟩ = some (.int .i64 a0_1) := (blk_cell BK101.out 1).trans rfl
                have hcz13_2 : wr.cell? ⟨gb101, 2, none⟩ = some (.int .i64 a0_2) := (blk_cell BK101.out 2).trans rfl
                have hcz13_3 : wr.cell? ⟨gb101, 3, none⟩ = some (.slice A0_3 l0_3.length c0_3) := (blk_cell BK101.out 3).trans rfl
                have hcz13_4 : wr.cell? ⟨gb101, 4, none⟩ = some (.slice A0_4 l0_4.length c0_4) := (blk_cell BK101.out 4).trans rfl
                have hcz13_5 : wr.cell? ⟨gb101, 5, none⟩ = some (.slice A0_5 l0_5.length c0_5) := (blk_cell BK101.out 5).trans rfl
                have hcz13_6 : wr.cell? ⟨gb101, 6, none⟩ = some (.string a0_6) := (blk_cell BK101.out 6).trans rfl
                have hcz13_7 : wr.cell? ⟨gb101, 7, none⟩ = some (.int .i64 a0_7) := (blk_cell BK101.out 7).trans rfl
                have hcz13_8 : wr.cell? ⟨gb101, 8, none⟩ = some (.int .i64 a0_8) := (blk_cell BK101.out 8).trans rfl
                have hcz13_9 : wr.cell? ⟨gb101, 9, none⟩ = some (.string a0_9) := (blk_cell BK101.out 9).trans rfl
                have hfz13_0 := blk_frozen BK101.out 0
                have hfz13_1 := blk_frozen BK101.out 1
                have hfz13_2 := blk_frozen BK101.out 2
                have hfz13_3 := blk_frozen BK101.out 3
                have hfz13_4 := blk_frozen BK101.out 4
                have hfz13_5 := blk_frozen BK101.out 5
                have hfz13_6 := blk_frozen BK101.out 6
                have hfz13_7 := blk_frozen BK101.out 7
                have hfz13_8 := blk_frozen BK101.out 8
                have hfz13_9 := blk_frozen BK101.out 9
                have p102 : 0 ≤ (x4_2 : Int) := of_decide_eq_true (by first | (with_reducible assumption) | assumption)
                have q102 : x4_2 < (l0_3.length : Int) := of_decide_eq_true (by first | (with_reducible assumption) | assumption)
                obtain ⟨ad102, e102, hx102_0⟩ := Kd.at_string HR0_3.out x4_2 p102 q102
                cases e102
                replace hx102_0 := (HB.out.cell (World.block_lt_of_cell? w _ hx102_0)).trans hx102_0
                replace p102 := eq_true p102
                replace q102 := eq_true q102
                go_wp2
                go_roundg k2
                case measure => have := HJ1.out; have := HK2.out; omega
                case rel => exact ⟨(wrap64 (x3_2 + ((rdOf ByteArray.empty l0_3 x4_2).size : Int))), (wrap64 (x4_2 + 1)), (by first | rfl | (simp; done) | (simp [*]; done)), (by first | rfl | (simp; done) | (simp [*]; done)), H', ⟨by have := HJ1.out; have := HK2.out; omega⟩, ⟨by (with_reducible repeat (first | refine blk_drewN ?_ _ | refine blk_drew ?_ | refine blk_alloc ?_ _)); exact BK101.out⟩, ⟨by repeat (first | (with_reducible first | exact HB.out | apply below_alloc | apply pw_below_drewN | apply below_drew1 | refine below_set ?_ GE101.out) | exact HB.out)⟩⟩
              · rw [if_neg c12] at H
                exact absurd H (by simp)
            · rw [if_neg c11] at H
              have c11b0 : decide (x4_2 < (l0_3.length : Int)) = false := decide_eq_false c11
              clear c11
              have H' := Aside0.mk H
              clear H
              have hcz14_0 : wr.cell? ⟨gb101, 0, none⟩ = some (.string a0_0) := (blk_cell BK101.out 0).trans rfl
              have hcz14_1 : wr.cell? ⟨gb101, 1, none⟩ = some (.int .i64 a0_1) := (blk_cell BK101.out 1).trans rfl
              have hcz14_2 : wr.cell? ⟨gb101, 2, none⟩ = some (.int .i64 a0_2) := (blk_cell BK101.out 2).trans rfl
              have hcz14_3 : wr.cell? ⟨gb101, 3, none⟩ = some (.slice A0_3 l0_3.length c0_3) := (blk_cell BK101.out 3).trans rfl
              have hcz14_4 : wr.cell? ⟨gb101, 4, none⟩ = some (.slice A0_4 l0_4.length c0_4) := (blk_cell BK101.out 4).trans rfl
              have hcz14_5 : wr.cell? ⟨gb101, 5, none⟩ = some (.slice A0_5 l0_5.length c0_5) := (blk_cell BK101.out 5).trans rfl
              have hcz14_6 : wr.cell? ⟨gb101, 6, none⟩ = some (.string a0_6) := (blk_cell BK101.out 6).trans rfl
              have hcz14_7 : wr.cell? ⟨gb101, 7, none⟩ = some (.int .i64 a0_7) := (blk_cell BK101.out 7).trans rfl
              have hcz14_8 : wr.cell? ⟨gb101, 8, none⟩ = some (.int .i64 a0_8) := (blk_cell BK101.out 8).trans rfl
              have hcz14_9 : wr.cell? ⟨gb101, 9, none⟩ = some (.string a0_9) := (blk_cell BK101.out 9).trans rfl
              have hfz14_0 := blk_frozen BK101.out 0
              have hfz14_1 := blk_frozen BK101.out 1
              have hfz14_2 := blk_frozen BK101.out 2
              have hfz14_3 := blk_frozen BK101.out 3
              have hfz14_4 := blk_frozen BK101.out 4
              have hfz14_5 := blk_frozen BK101.out 5
              have hfz14_6 := blk_frozen BK101.out 6
              have hfz14_7 := blk_frozen BK101.out 7
              have hfz14_8 := blk_frozen BK101.out 8
              have hfz14_9 := blk_frozen BK101.out 9
              go_wp2
              go_loopg [3, 5] k2 (fun kq v3 v5 w' => ∃ (x3_3 : Int) (x5_3 : Int), v3 = .int .i64 x3_3 ∧ v5 = .int .i64 x5_3 ∧ Aside0 (jobshelllaw46_few.l1 kq x3_3 x5_3 a0_0 a0_1 a0_2 l0_3 l0_4 l0_5 a0_6 a0_7 a0_8 a0_9 = some r) ∧ Aside0 (kq ≤ k2) ∧ Aside0 (w'.heap[gb101]? = some (.cells #[.string a0_0, .int .i64 a0_1, .int .i64 a0_2, (.slice A0_3 l0_3.length c0_3), (.slice A0_4 l0_4.length c0_4), (.slice A0_5 l0_5.length c0_5), .string a0_6, .int .i64 a0_7, .int .i64 a0_8, .string a0_9] 27 (0, 0))) ∧ Aside0 (Below w.heap.size w w'))
              case atStart => exact ⟨(x3_2), (0), (by first | rfl | (simp; done) | (simp [*]; done)), (by first | rfl | (simp; done) | (simp [*]; done)), H', ⟨Nat.le_refl _⟩, ⟨by (with_reducible repeat (first | refine blk_drewN ?_ _ | refine blk_drew ?_ | refine blk_alloc ?_ _)); exact BK101.out⟩, ⟨by repeat (first | (with_reducible first | exact HB.out | apply below_alloc | apply pw_below_drewN | apply below_drew1 | refine below_set ?_ GE101.out) | exact HB.out)⟩⟩
              case round =>
                clear H'
                try clear c1
                try clear p1
                try clear q1
                try clear hx1
                try clear p2
                try clear c4
                try clear c4b0
                try clear c4b1
                try clear c6
                try clear c6b0
                try clear c6b1
                try clear p6
                try clear c9
                try clear p10
                try clear q10
                try clear hx10
                try clear c11
                try clear c11b0
                try clear c12
                try clear c12b0
                try clear hcz10_0
                try clear hcz10_1
                try clear hcz10_2
                try clear hcz10_3
                try clear hcz10_4
                try clear hcz10_5
                try clear hcz10_6
                try clear hcz10_7
                try clear hcz10_8
                try clear hcz10_9
                try clear hcz13_0
                try clear hcz13_1
                try clear hcz13_2
                try clear hcz13_3
                try clear hcz13_4
                try clear hcz13_5
                try clear hcz13_6
                try clear hcz13_7
                try clear hcz13_8
                try clear hcz13_9
                try clear hcz14_0
                try clear hcz14_1
                try clear hcz14_2
                try clear hcz14_3
                try clear hcz14_4
                try clear hcz14_5
                try clear hcz14_6
                try clear hcz14_7
                try clear hcz14_8
                try clear hcz14_9
                try clear hcz5_0
                try clear hcz5_1
                try clear hcz5_2
                try clear hcz5_3
                try clear hcz5_4
                try clear hcz5_5
                try clear hcz5_6
                try clear hcz5_7
                try clear hcz5_8
                try clear hcz5_9
                try clear hcz7_0
                try clear hcz7_1
                try clear hcz7_2
                try clear hcz7_3
                try clear hcz7_4
                try clear hcz7_5
                try clear hcz7_6
                try clear hcz7_7
                try clear hcz7_8
                try clear hcz7_9
                try clear hcz8_0
                try clear hcz8_1
                try clear hcz8_2
                try clear hcz8_3
                try clear hcz8_4
                try clear hcz8_5
                try clear hcz8_6
                try clear hcz8_7
                try clear hcz8_8
                try clear hcz8_9
                try clear hfz10_0
                try clear hfz10_1
                try clear hfz10_2
                try clear hfz10_3
                try clear hfz10_4
                try clear hfz10_5
                try clear hfz10_6
                try clear hfz10_7
                try clear hfz10_8
                try clear hfz10_9
                try clear hfz13_0
                try clear hfz13_1
                try clear hfz13_2
                try clear hfz13_3
                try clear hfz13_4
                try clear hfz13_5
                try clear hfz13_6
                try clear hfz13_7
                try clear hfz13_8
                try clear hfz13_9
                try clear hfz14_0
                try clear hfz14_1
                try clear hfz14_2
                try clear hfz14_3
                try clear hfz14_4
                try clear hfz14_5
                try clear hfz14_6
                try clear hfz14_7
                try clear hfz14_8
                try clear hfz14_9
                try clear hfz5_0
                try clear hfz5_1
                try clear hfz5_2
                try clear hfz5_3
                try clear hfz5_4
                try clear hfz5_5
                try clear hfz5_6
                try clear hfz5_7
                try clear hfz5_8
                try clear hfz5_9
                try clear hfz7_0
                try clear hfz7_1
                try clear hfz7_2
                try clear hfz7_3
                try clear hfz7_4
                try clear hfz7_5
                try clear hfz7_6
                try clear hfz7_7
                try clear hfz7_8
                try clear hfz7_9
                try clear hfz8_0
                try clear hfz8_1
                try clear hfz8_2
                try clear hfz8_3
                try clear hfz8_4
                try clear hfz8_5
                try clear hfz8_6
                try clear hfz8_7
                try clear hfz8_8
                try clear hfz8_9
                try clear hx102_0
                try clear p102
                try clear p2
                try clear p6
                try clear q102
                obtain ⟨x3_3, x5_3, rfl, rfl, HA, HK3, BK101, HB⟩ := hrel
                cases gk with
                | zero => exact absurd HA.out (by simp [jobshelllaw46_few.l1])
                | succ k3 =>
                  have H := HA.out
                  clear HA
                  simp only [jobshelllaw46_few.l1] at H
                  by_cases c15 : x5_3 < (l0_4.length : Int)
                  · rw [if_pos c15] at H
                    have c15b0 : decide (x5_3 < (l0_4.length : Int)) = true := decide_eq_true c15
                    clear c15
                    by_cases c16 : 0 ≤ x5_3
                    · rw [if_pos c16] at H
                      have c16b0 : decide (0 ≤ x5_3) = true := decide_eq_true c16
                      clear c16
                      have H' := Aside0.mk H
                      clear H
                      have hcz17_0 : wr.cell? ⟨gb101, 0, none⟩ = some (.string a0_0) := (blk_cell BK101.out 0).trans rfl
                      have hcz17_1 : wr.cell? ⟨gb101, 1, none⟩ = some (.int .i64 a0_1) := (blk_cell BK101.out 1).trans rfl
                      have hcz17_2 : wr.cell? ⟨gb101, 2, none⟩ = some (.int .i64 a0_2) := (blk_cell BK101.out 2).trans rfl
                      have hcz17_3 : wr.cell? ⟨gb101, 3, none⟩ = some (.slice A0_3 l0_3.length c0_3) := (blk_cell BK101.out 3).trans rfl
                      have hcz17_4 : wr.cell? ⟨gb101, 4, none⟩ = some (.slice A0_4 l0_4.length c0_4) := (blk_cell BK101.out 4).trans rfl
                      have hcz17_5 : wr.cell? ⟨gb101, 5, none⟩ = some (.slice A0_5 l0_5.length c0_5) := (blk_cell BK101.out 5).trans rfl
                      have hcz17_6 : wr.cell? ⟨gb101, 6, none⟩ = some (.string a0_6) := (blk_cell BK101.out 6).trans rfl
                      have hcz17_7 : wr.cell? ⟨gb101, 7, none⟩ = some (.int .i64 a0_7) := (blk_cell BK101.out 7).trans rfl
                      have hcz17_8 : wr.cell? ⟨gb101, 8, none⟩ = some (.int .i64 a0_8) := (blk_cell BK101.out 8).trans rfl
                      have hcz17_9 : wr.cell? ⟨gb101, 9, none⟩ = some (.string a0_9) := (blk_cell BK101.out 9).trans rfl
                      have hfz17_0 := blk_frozen BK101.out 0
                      have hfz17_1 := blk_frozen BK101.out 1
                      have hfz17_2 := blk_frozen BK101.out 2
                      have hfz17_3 := blk_frozen BK101.out 3
                      have hfz17_4 := blk_frozen BK101.out 4
                      have hfz17_5 := blk_frozen BK101.out 5
                      have hfz17_6 := blk_frozen BK101.out 6
                      have hfz17_7 := blk_frozen BK101.out 7
                      have hfz17_8 := blk_frozen BK101.out 8
                      have hfz17_9 := blk_frozen BK101.out 9
                      have p103 : 0 ≤ (x5_3 : Int) := of_decide_eq_true (by first | (with_reducible assumption) | assumption)
                      have q103 : x5_3 < (l0_4.length : Int) := of_decide_eq_true (by first | (with_reducible assumption) | assumption)
                      obtain ⟨ad103, e103, hx103_0, hx103_1⟩ := at_T23 HR0_4.out x5_3 p103 q103
                      cases e103
                      replace hx103_0 := (HB.out.cell (World.block_lt_of_cell? w _ hx103_0)).trans hx103_0
                      replace hx103_1 := (HB.out.cell (World.block_lt_of_cell? w _ hx103_1)).trans hx103_1
                      replace p103 := eq_true p103
                      replace q103 := eq_true q103
                      go_wp2
                      go_roundg k3
                      case measure => have := HJ1.out; have := HK2.out; have := HK3.out; omega
                      case rel => exact ⟨(wrap64 (x3_3 + (((rd_T23 l0_4 x5_3).f0).size : Int))), (wrap64 (x5_3 + 1)), (by first | rfl | (simp; done) | (simp [*]; done)), (by first | rfl | (simp; done) | (simp [*]; done)), H', ⟨by have := HJ1.out; have := HK2.out; have := HK3.out; omega⟩, ⟨by (with_reducible repeat (first | refine blk_drewN ?_ _ | refine blk_drew ?_ | refine blk_alloc ?_ _)); exact BK101.out⟩, ⟨by repeat (first | (with_reducible first | exact HB.out | apply below_alloc | apply pw_below_drewN | apply below_drew1 | refine below_set ?_ GE101.out) | exact HB.out)⟩⟩
                    · rw [if_neg c16] at H
                      exact absurd H (by simp)
                  · rw [if_neg c15] at H
                    have c15b0 : decide (x5_3 < (l0_4.length : Int)) = false := decide_eq_false c15
                    clear c15
                    have H' := Aside0.mk H
                    clear H
                    have hcz18_0 : wr.cell? ⟨gb101, 0, none⟩ = some (.string a0_0) := (blk_cell BK101.out 0).trans rfl
                    have hcz18_1 : wr.cell? ⟨gb101, 1, none⟩ = some (.int .i64 a0_1) := (blk_cell BK101.out 1).trans rfl
                    have hcz18_2 : wr.cell? ⟨gb101, 2, none⟩ = some (.int .i64 a0_2) := (blk_cell BK101.out 2).trans rfl
                    have hcz18_3 : wr.cell? ⟨gb101, 3, none⟩ = some (.slice A0_3 l0_3.length c0_3) := (blk_cell BK101.out 3).trans rfl
                    have hcz18_4 : wr.cell? ⟨gb101, 4, none⟩ = some (.slice A0_4 l0_4.length c0_4) := (blk_cell BK101.out 4).trans rfl
                    have hcz18_5 : wr.cell? ⟨gb101, 5, none⟩ = some (.slice A0_5 l0_5.length c0_5) := (blk_cell BK101.out 5).trans rfl
                    have hcz18_6 : wr.cell? ⟨gb101, 6, none⟩ = some (.string a0_6) := (blk_cell BK101.out 6).trans rfl
                    have hcz18_7 : wr.cell? ⟨gb101, 7, none⟩ = some (.int .i64 a0_7) := (blk_cell BK101.out 7).trans rfl
                    have hcz18_8 : wr.cell? ⟨gb101, 8, none⟩ = some (.int .i64 a0_8) := (blk_cell BK101.out 8).trans rfl
                    have hcz18_9 : wr.cell? ⟨gb101, 9, none⟩ = some (.string a0_9) := (blk_cell BK101.out 9).trans rfl
                    have hfz18_0 := blk_frozen BK101.out 0
                    have hfz18_1 := blk_frozen BK101.out 1
                    have hfz18_2 := blk_frozen BK101.out 2
                    have hfz18_3 := blk_frozen BK101.out 3
                    have hfz18_4 := blk_frozen BK101.out 4
                    have hfz18_5 := blk_frozen BK101.out 5
                    have hfz18_6 := blk_frozen BK101.out 6
                    have hfz18_7 := blk_frozen BK101.out 7
                    have hfz18_8 := blk_frozen BK101.out 8
                    have hfz18_9 := blk_frozen BK101.out 9
                    go_wp2
                    go_loopg [3, 6] k3 (fun kq v3 v6 w' => ∃ (x3_4 : Int) (x6_4 : Int), v3 = .int .i64 x3_4 ∧ v6 = .int .i64 x6_4 ∧ Aside0 (jobshelllaw46_few.l2 kq x3_4 x6_4 a0_0 a0_1 a0_2 l0_3 l0_4 l0_5 a0_6 a0_7 a0_8 a0_9 = some r) ∧ Aside0 (kq ≤ k3) ∧ Aside0 (w'.heap[gb101]? = some (.cells #[.string a0_0, .int .i64 a0_1, .int .i64 a0_2, (.slice A0_3 l0_3.length c0_3), (.slice A0_4 l0_4.length c0_4), (.slice A0_5 l0_5.length c0_5), .string a0_6, .int .i64 a0_7, .int .i64 a0_8, .string a0_9] 27 (0, 0))) ∧ Aside0 (Below w.heap.size w w'))
                    case atStart => exact ⟨(x3_3), (0), (by first | rfl | (simp; done) | (simp [*]; done)), (by first | rfl | (simp; done) | (simp [*]; done)), H', ⟨Nat.le_refl _⟩, ⟨by (with_reducible repeat (first | refine blk_drewN ?_ _ | refine blk_drew ?_ | refine blk_alloc ?_ _)); exact BK101.out⟩, ⟨by repeat (first | (with_reducible first | exact HB.out | apply below_alloc | apply pw_below_drewN | apply below_drew1 | refine below_set ?_ GE101.out) | exact HB.out)⟩⟩
                    case round =>
                      clear H'
                      try clear c1
                      try clear p1
                      try clear q1
                      try clear hx1
                      try clear p2
                      try clear c4
                      try clear c4b0
                      try clear c4b1
                      try clear c6
                      try clear c6b0
                      try clear c6b1
                      try clear p6
                      try clear c9
                      try clear p10
                      try clear q10
                      try clear hx10
                      try clear c11
                      try clear c11b0
                      try clear c12
                      try clear c12b0
                      try clear c15
                      try clear c15b0
                      try clear c16
                      try clear c16b0
                      try clear hcz10_0
                      try clear hcz10_1
                      try clear hcz10_2
                      try clear hcz10_3
                      try clear hcz10_4
                      try clear hcz10_5
                      try clear hcz10_6
                      try clear hcz10_7
                      try clear hcz10_8
                      try clear hcz10_9
                      try clear hcz13_0
                      try clear hcz13_1
                      try clear hcz13_2
                      try clear hcz13_3
                      try clear hcz13_4
                      try clear hcz13_5
                      try clear hcz13_6
                      try clear hcz13_7
                      try clear hcz13_8
                      try clear hcz13_9
                      try clear hcz14_0
                      try clear hcz14_1
                      try clear hcz14_2
                      try clear hcz14_3
                      try clear hcz14_4
                      try clear hcz14_5
                      try clear hcz14_6
                      try clear hcz14_7
                      try clear hcz14_8
                      try clear hcz14_9
                      try clear hcz17_0
                      try clear hcz17_1
                      try clear hcz17_2
                      try clear hcz17_3
                      try clear hcz17_4
                      try clear hcz17_5
                      try clear hcz17_6
                      try clear hcz17_7
                      try clear hcz17_8
                      try clear hcz17_9
                      try clear hcz18_0
                      try clear hcz18_1
                      try clear hcz18_2
                      try clear hcz18_3
                      try clear hcz18_4
                      try clear hcz18_5
                      try clear hcz18_6
                      try clear hcz18_7
                      try clear hcz18_8
                      try clear hcz18_9
                      try clear hcz5_0
                      try clear hcz5_1
                      try clear hcz5_2
                      try clear hcz5_3
                      try clear hcz5_4
                      try clear hcz5_5
                      try clear hcz5_6
                      try clear hcz5_7
                      try clear hcz5_8
                      try clear hcz5_9
                      try clear hcz7_0
                      try clear hcz7_1
                      try clear hcz7_2
                      try clear hcz7_3
                      try clear hcz7_4
                      try clear hcz7_5
                      try clear hcz7_6
                      try clear hcz7_7
                      try clear hcz7_8
                      try clear hcz7_9
                      try clear hcz8_0
                      try clear hcz8_1
                      try clear hcz8_2
                      try clear hcz8_3
                      try clear hcz8_4
                      try clear hcz8_5
                      try clear hcz8_6
                      try clear hcz8_7
                      try clear hcz8_8
                      try clear hcz8_9
                      try clear hfz10_0
                      try clear hfz10_1
                      try clear hfz10_2
                      try clear hfz10_3
                      try clear hfz10_4
                      try clear hfz10_5
                      try clear hfz10_6
                      try clear hfz10_7
                      try clear hfz10_8
                      try clear hfz10_9
                      try clear hfz13_0
                      try clear hfz13_1
                      try clear hfz13_2
                      try clear hfz13_3
                      try clear hfz13_4
                      try clear hfz13_5
                      try clear hfz13_6
                      try clear hfz13_7
                      try clear hfz13_8
                      try clear hfz13_9
                      try clear hfz14_0
                      try clear hfz14_1
                      try clear hfz14_2
                      try clear hfz14_3
                      try clear hfz14_4
                      try clear hfz14_5
                      try clear hfz14_6
                      try clear hfz14_7
                      try clear hfz14_8
                      try clear hfz14_9
                      try clear hfz17_0
                      try clear hfz17_1
                      try clear hfz17_2
                      try clear hfz17_3
                      try clear hfz17_4
                      try clear hfz17_5
                      try clear hfz17_6
                      try clear hfz17_7
                      try clear hfz17_8
                      try clear hfz17_9
                      try clear hfz18_0
                      try clear hfz18_1
                      try clear hfz18_2
                      try clear hfz18_3
                      try clear hfz18_4
                      try clear hfz18_5
                      try clear hfz18_6
                      try clear hfz18_7
                      try clear hfz18_8
                      try clear hfz18_9
                      try clear hfz5_0
                      try clear hfz5_1
                      try clear hfz5_2
                      try clear hfz5_3
                      try clear hfz5_4
                      try clear hfz5_5
                      try clear hfz5_6
                      try clear hfz5_7
                      try clear hfz5_8
                      try clear hfz5_9
                      try clear hfz7_0
                      try clear hfz7_1
                      try clear hfz7_2
                      try clear hfz7_3
                      try clear hfz7_4
                      try clear hfz7_5
                      try clear hfz7_6
                      try clear hfz7_7
                      try clear hfz7_8
                      try clear hfz7_9
                      try clear hfz8_0
                      try clear hfz8_1
                      try clear hfz8_2
                      try clear hfz8_3
                      try clear hfz8_4
                      try clear hfz8_5
                      try clear hfz8_6
                      try clear hfz8_7
                      try clear hfz8_8
                      try clear hfz8_9
                      try clear hx102_0
                      try clear hx103_0
                      try clear hx103_1
                      try clear p1
                      try clear p10
                      try clear p102
                      try clear p103
                      try clear p2
                      try clear p6
                      try clear q1
                      try clear q10
                      try clear q102
                      try clear q103
                      obtain ⟨x3_4, x6_4, rfl, rfl, HA, HK4, BK101, HB⟩ := hrel
                      cases gk with
                      | zero => exact absurd HA.out (by simp [jobshelllaw46_few.l2])
                      | succ k4 =>
                        have H := HA.out
                        clear HA
                        simp only [jobshelllaw46_few.l2] at H
                        by_cases c19 : x6_4 < (l0_5.length : Int)
                        · rw [if_pos c19] at H
                          have c19b0 : decide (x6_4 < (l0_5.length : Int)) = true := decide_eq_true c19
                          clear c19
                          by_cases c20 : 0 ≤ x6_4
                          · rw [if_pos c20] at H
                            have c20b0 : decide (0 ≤ x6_4) = true := decide_eq_true c20
                            clear c20
                            have H' := Aside0.mk H
                            clear H
                            have hcz21_0 : wr.cell? ⟨gb101, 0, none⟩ = some (.string a0_0) := (blk_cell BK101.out 0).trans rfl
                            have hcz21_1 : wr.cell? ⟨gb101, 1, none⟩ = some (.int .i64 a0_1) := (blk_cell BK101.out 1).trans rfl
                            have hcz21_2 : wr.cell? ⟨gb101, 2, none⟩ = some (.int .i64 a0_2) := (blk_cell BK101.out 2).trans rfl
                            have hcz21_3 : wr.cell? ⟨gb101, 3, none⟩ = some (.slice A0_3 l0_3.length c0_3) := (blk_cell BK101.out 3).trans rfl
                            have hcz21_4 : wr.cell? ⟨gb101, 4, none⟩ = some (.slice A0_4 l0_4.length c0_4) := (blk_cell BK101.out 4).trans rfl
                            have hcz21_5 : wr.cell? ⟨gb101, 5, none⟩ = some (.slice A0_5 l0_5.length c0_5) := (blk_cell BK101.out 5).trans rfl
                            have hcz21_6 : wr.cell? ⟨gb101, 6, none⟩ = some (.string a0_6) := (blk_cell BK101.out 6).trans rfl
                            have hcz21_7 : wr.cell? ⟨gb101, 7, none⟩ = some (.int .i64 a0_7) := (blk_cell BK101.out 7).trans rfl
                            have hcz21_8 : wr.cell? ⟨gb101, 8, none⟩ = some (.int .i64 a0_8) := (blk_cell BK101.out 8).trans rfl
                            have hcz21_9 : wr.cell? ⟨gb101, 9, none⟩ = some (.string a0_9) := (blk_cell BK101.out 9).trans rfl
                            have hfz21_0 := blk_frozen BK101.out 0
                            have hfz21_1 := blk_frozen BK101.out 1
                            have hfz21_2 := blk_frozen BK101.out 2
                            have hfz21_3 := blk_frozen BK101.out 3
                            have hfz21_4 := blk_frozen BK101.out 4
                            have hfz21_5 := blk_frozen BK101.out 5
                            have hfz21_6 := blk_frozen BK101.out 6
                            have hfz21_7 := blk_frozen BK101.out 7
                            have hfz21_8 := blk_frozen BK101.out 8
                            have hfz21_9 := blk_frozen BK101.out 9
                            have p104 : 0 ≤ (x6_4 : Int) := of_decide_eq_true (by first | (with_reducible assumption) | assumption)
                            have q104 : x6_4 < (l0_5.length : Int) := of_decide_eq_true (by first | (with_reducible assumption) | assumption)
                            obtain ⟨ad104, e104, hx104_0, hx104_1⟩ := at_T23 HR0_5.out x6_4 p104 q104
                            cases e104
                            replace hx104_0 := (HB.out.cell (World.block_lt_of_cell? w _ hx104_0)).trans hx104_0
                            replace hx104_1 := (HB.out.cell (World.block_lt_of_cell? w _ hx104_1)).trans hx104_1
                            replace p104 := eq_true p104
                            replace q104 := eq_true q104
                            go_wp2
                            go_roundg k4
                            case measure => have := HJ1.out; have := HK2.out; have := HK3.out; have := HK4.out; omega
                            case rel => exact ⟨(wrap64 (x3_4 + (((rd_T23 l0_5 x6_4).f0).size : Int))), (wrap64 (x6_4 + 1)), (by first | rfl | (simp; done) | (simp [*]; done)), (by first | rfl | (simp; done) | (simp [*]; done)), H', ⟨by have := HJ1.out; have := HK2.out; have := HK3.out; have := HK4.out; omega⟩, ⟨by (with_reducible repeat (first | refine blk_drewN ?_ _ | refine blk_drew ?_ | refine blk_alloc ?_ _)); exact BK101.out⟩, ⟨by repeat (first | (with_reducible first | exact HB.out | apply below_alloc | apply pw_below_drewN | apply below_drew1 | refine below_set ?_ GE101.out) | exact HB.out)⟩⟩
                          · rw [if_neg c20] at H
                            exact absurd H (by simp)
                        · rw [if_neg c19] at H
                          have c19b0 : decide (x6_4 < (l0_5.length : Int)) = false := decide_eq_false c19
                          clear c19
                          obtain rfl := Option.some.inj H
                          have hcz22_0 : wr.cell? ⟨gb101, 0, none⟩ = some (.string a0_0) := (blk_cell BK101.out 0).trans rfl
                          have hcz22_1 : wr.cell? ⟨gb101, 1, none⟩ = some (.int .i64 a0_1) := (blk_cell BK101.out 1).trans rfl
                          have hcz22_2 : wr.cell? ⟨gb101, 2, none⟩ = some (.int .i64 a0_2) := (blk_cell BK101.out 2).trans rfl
                          have hcz22_3 : wr.cell? ⟨gb101, 3, none⟩ = some (.slice A0_3 l0_3.length c0_3) := (blk_cell BK101.out 3).trans rfl
                          have hcz22_4 : wr.cell? ⟨gb101, 4, none⟩ = some (.slice A0_4 l0_4.length c0_4) := (blk_cell BK101.out 4).trans rfl
                          have hcz22_5 : wr.cell? ⟨gb101, 5, none⟩ = some (.slice A0_5 l0_5.length c0_5) := (blk_cell BK101.out 5).trans rfl
                          have hcz22_6 : wr.cell? ⟨gb101, 6, none⟩ = some (.string a0_6) := (blk_cell BK101.out 6).trans rfl
                          have hcz22_7 : wr.cell? ⟨gb101, 7, none⟩ = some (.int .i64 a0_7) := (blk_cell BK101.out 7).trans rfl
                          have hcz22_8 : wr.cell? ⟨gb101, 8, none⟩ = some (.int .i64 a0_8) := (blk_cell BK101.out 8).trans rfl
                          have hcz22_9 : wr.cell? ⟨gb101, 9, none⟩ = some (.string a0_9) := (blk_cell BK101.out 9).trans rfl
                          have hfz22_0 := blk_frozen BK101.out 0
                          have hfz22_1 := blk_frozen BK101.out 1
                          have hfz22_2 := blk_frozen BK101.out 2
                          have hfz22_3 := blk_frozen BK101.out 3
                          have hfz22_4 := blk_frozen BK101.out 4
                          have hfz22_5 := blk_frozen BK101.out 5
                          have hfz22_6 := blk_frozen BK101.out 6
                          have hfz22_7 := blk_frozen BK101.out 7
                          have hfz22_8 := blk_frozen BK101.out 8
                          have hfz22_9 := blk_frozen BK101.out 9
                          go_wp2
                          go_ret
                          exact ⟨by first | rfl | (simp [errW_none, errW_some] <;> rfl) | (simp [*, errW_none, errW_some] <;> rfl), by repeat (first | (with_reducible first | exact HB.out | apply below_alloc | apply pw_below_drewN | apply below_drew1 | refine below_set ?_ GE101.out) | exact HB.out)⟩

end Go.Proofs.Ytlbbjdggebgabaa.P
end

section
namespace Go.Proofs.Ytlbbjdggebgabaa.P
open Go.RowKit Go.Proofs.YtlbbjdggebgabaaW.PrintWords Go.Proofs.YtlbbjdggebgabaaW.PrintLast Go.Proofs.YtlbbjdggebgabaaW.PrintMore
attribute [local go_sem] max2_int min2_int max_two min_two max_three min_three max_four min_four   -- for this text's walks alone
set_option linter.unusedVariables false
set_option linter.unusedSimpArgs false

theorem eqA23 (d : Nat) (w : World) (x0 y0 : ByteArray) (x1 y1 : Int) :
    (Op.equalIn (d + 2) 23 (.agg #[.string x0, .int .i64 x1]) (.agg #[.string y0, .int .i64 y1])).run Try.prog w = .ok (x0.toList == y0.toList && (x1 == y1)) w := by
  refine eqA_of Try.underlying23 (by kernel_rfl) ?_
  refine eqf_cons (by rfl) (by go_simp; rfl) (by go_simp; rfl) (by go_simp) ?_
  exact eqf_last (by rfl) (by go_simp; rfl) (by go_simp; rfl) (by go_simp)
end Go.Proofs.Ytlbbjdggebgabaa.P
end

section
namespace Go.Proofs.Ytlbbjdggebgabaa.P
open Go.RowKit Go.Proofs.YtlbbjdggebgabaaW.PrintWords Go.Proofs.YtlbbjdggebgabaaW.PrintLast Go.Proofs.YtlbbjdggebgabaaW.PrintMore
attribute [local go_sem] max2_int min2_int max_two min_two max_three min_three max_four min_four   -- for this text's walks alone
set_option linter.unusedVariables false
set_option linter.unusedSimpArgs false

attribute [local go_sem high] eqA23
def jobshellref46_sameSnaps.l0 : Nat → List (S23) → List (S23) → Int → Option (Bool)
  | 0, _, _, _ => none
  | k + 1, x0, x1, x5 => if x5 < (x0.length : Int) then (if 0 ≤ x5 then (if x5 < (x1.length : Int) then (if (!((((rd_T23 x0 x5).f0).toList) == (((rd_T23 x1 x5).f0).toList)) || (!(((rd_T23 x0 x5).f1) == ((rd_T23 x1 x5).f1)))) = true then (some false) else (jobshellref46_sameSnaps.l0 k x0 x1 (wrap64 (x5 + 1)))) else (none)) else (none)) else (some true)
def jobshellref46_sameSnaps.f (k : Nat) (l0 : List (S23)) (l1 : List (S23)) : Option (Bool) := if (l0.length : Int) = (l1.length : Int) then (jobshellref46_sameSnaps.l0 k l0 l1 0) else (some false)
set_option maxHeartbeats 8000000 in
set_option maxRecDepth 100000 in
theorem jobshellref46_sameSnaps.calls (k : Nat) (A0 : Option Addr) (c0 : Nat) (l0 : List (S23)) (A1 : Option Addr) (c1 : Nat) (l1 : List (S23)) (r : Bool) (w : World) (hr0 : Kd.C k23 w A0 l0.length l0) (hc0 : l0.length ≤ c0) (hr1 : Kd.C k23 w A1 l1.length l1) (hc1 : l1.length ≤ c1) (h : jobshellref46_sameSnaps.f k l0 l1 = some r) :
    Calls Try.prog 26 #[.slice A0 l0.length c0, .slice A1 l1.length c1] w fun e w' => e = .returned (.bool r) ∧ Drawn0 w w' := by
  have hu23 := Try.underlying23
  have HR0 := Aside0.mk hr0
  have HC0 := Aside0.mk hc0
  clear hr0 hc0
  have HR1 := Aside0.mk hr1
  have HC1 := Aside0.mk hc1
  clear hr1 hc1
  have H : (if (l0.length : Int) = (l1.length : Int) then (jobshellref46_sameSnaps.l0 k l0 l1 0) else (some false)) = some r := h
  clear h
  by_cases c3 : (l0.length : Int) = (l1.length : Int)
  · rw [if_pos c3] at H
    have c3b0 : ((l0.length : Int) == (l1.length : Int)) = true := beq_iff_eq.mpr c3
    have c3b1 : ((l0.length : Int) != (l1.length : Int)) = false := bne_eq_false_iff_eq.mpr c3
    have c3b2 : (l0.length == l1.length) = true := by first | simpa using c3 | (simp at c3 ⊢; omega)
    clear c3
    have H' := Aside0.mk H
    clear H
    go_enter Try.func26, Try.ntmps26
    go_wp2
    repeat (go_quiet (fail); try go_wp2)
    go_loopg [5] k (fun kq v5 w' => ∃ (x5_1 : Int), v5 = .int .i64 x5_1 ∧ Aside0 (jobshellref46_sameSnaps.l0 kq l0 l1 x5_1 = some r) ∧ Aside0 (kq ≤ k) ∧ Drawn0 w w')
    case atStart => exact ⟨(0), (by first | rfl | (simp; done) | (simp [*]; done)), H', ⟨Nat.le_refl _⟩, by repeat (first | exact Drawn0.refl _ | apply Drawn0.step)⟩
    case round =>
      clear H'
      try clear c1
      try clear c2
      try clear p2
      try clear c3
      try clear c3b0
      try clear c3b1
      try clear c3b2
      obtain ⟨x5_1, rfl, HA, HK1, ⟨m1, rfl⟩⟩ := hrel
      cases gk with
      | zero => exact absurd HA.out (by simp [jobshellref46_sameSnaps.l0])
      | succ k1 =>
        have H := HA.out
        clear HA
        simp only [jobshellref46_sameSnaps.l0] at H
        by_cases c4 : x5_1 < (l0.length : Int)
        · rw [if_pos c4] at H
          have c4b0 : decide (x5_1 < (l0.length : Int)) = true := decide_eq_true c4
          clear c4
          by_cases c5 : 0 ≤ x5_1
          · rw [if_pos c5] at H
            have c5b0 : decide (0 ≤ x5_1) = true := decide_eq_true c5
            clear c5
            by_cases c6 : x5_1 < (l1.length : Int)
            · rw [if_pos c6] at H
              have c6b0 : decide (x5_1 < (l1.length : Int)) = true := decide_eq_true c6
              clear c6
              by_cases c7 : (!((((rd_T23 l0 x5_1).f0).toList) == (((rd_T23 l1 x5_1).f0).toList)) || (!(((rd_T23 l0 x5_1).f1) == ((rd_T23 l1 x5_1).f1)))) = true
              · rw [if_pos c7] at H
                have c7b0 : (!((((rd_T23 l0 x5_1).f0).toList) == (((rd_T23 l1 x5_1).f0).toList)) || (!(((rd_T23 l0 x5_1).f1) == ((rd_T23 l1 x5_1).f1)))) = true := c7
                clear c7
                obtain rfl := Option.some.inj H
                have p348 : 0 ≤ (x5_1 : Int) := of_decide_eq_true (by first | (with_reducible assumption) | assumption)
                have q348 : x5_1 < (l0.length : Int) := of_decide_eq_true (by first | (with_reducible assumption) | assumption)
                obtain ⟨ad348, e348, hx348_0, hx348_1⟩ := at_T23 HR0.out x5_1 p348 q348
                cases e348
                replace p348 := eq_true p348
                replace q348 := eq_true q348
                have p349 : 0 ≤ (x5_1 : Int) := of_decide_eq_true (by first | (with_reducible assumption) | assumption)
                have q349 : x5_1 < (l1.length : Int) := of_decide_eq_true (by first | (with_reducible assumption) | assumption)
                obtain ⟨ad349, e349, hx349_0, hx349_1⟩ := at_T23 HR1.out x5_1 p349 q349
                cases e349
                replace p349 := eq_true p349
                replace q349 := eq_true q349
                go_wp2
                repeat (go_quiet (fail); try go_wp2)
                go_ret
                exact ⟨by first | rfl | (simp; done) | (simp [*]; done), by repeat (first | exact Drawn0.refl _ | apply Drawn0.step)⟩
              · rw [if_neg c7] at H
                have c7b0 : (!((((rd_T23 l0 x5_1).f0).toList) == (((rd_T23 l1 x5_1).f0).toList)) || (!(((rd_T23 l0 x5_1).f1) == ((rd_T23 l1 x5_1).f1)))) = false := by simpa using c7
                clear c7
                have H' := Aside0.mk H
                clear H
                have p348 : 0 ≤ (x5_1 : Int) := of_decide_eq_true (by first | (with_reducible assumption) | assumption)
                have q348 : x5_1 < (l0.length : Int) := of_decide_eq_true (by first | (with_reducible assumption) | assumption)
                obtain ⟨ad348, e348, hx348_0, hx348_1⟩ := at_T23 HR0.out x5_1 p348 q348
                cases e348
                replace p348 := eq_true p348
                replace q348 := eq_true q348
                have p349 : 0 ≤ (x5_1 : Int) := of_decide_eq_true (by first | (with_reducible assumption) | assumption)
                have q349 : x5_1 < (l1.length : Int) := of_decide_eq_true (by first | (with_reducible assumption) | assumption)
                obtain ⟨ad349, e349, hx349_0, hx349_1⟩ := at_T23 HR1.out x5_1 p349 q349
                cases e349
                replace p349 := eq_true p349
                replace q349 := eq_true q349
                go_wp2
                repeat (go_quiet (fail); try go_wp2)
                go_roundg k1
                case measure => have := HK1.out; omega
                case rel => exact ⟨(wrap64 (x5_1 + 1)), (by first | rfl | (simp; done) | (simp [*]; done)), H', ⟨by have := HK1.out; omega⟩, by repeat (first | exact Drawn0.refl _ | apply Drawn0.step)⟩
            · rw [if_neg c6] at H
              exact absurd H (by simp)
          · rw [if_neg c5] at H
            exact absurd H (by simp)
        · rw [if_neg c4] at H
          have c4b0 : decide (x5_1 < (l0.length : Int)) = false := decide_eq_false c4
          clear c4
          obtain rfl := Option.some.inj H
          go_wp2
          repeat (go_quiet (fail); try go_wp2)
          go_ret
          exact ⟨by first | rfl | (simp; done) | (simp [*]; done), by repeat (first | exact Drawn0.refl _ | apply Drawn0.step)⟩
  · rw [if_neg c3] at H
    have c3b0 : ((l0.length : Int) == (l1.length : Int)) = false := beq_eq_false_iff_ne.mpr c3
    have c3b1 : ((l0.length : Int) != (l1.length : Int)) = true := bne_iff_ne.mpr c3
    have c3b2 : (l0.length == l1.length) = false := by first | simpa using c3 | (simp at c3 ⊢; omega)
    obtain rfl := Option.some.inj H
    go_enter Try.func26, Try.ntmps26
    go_wp2
    repeat (go_quiet (fail); try go_wp2)
    go_ret
    exact ⟨by first | rfl | (simp; done) | (simp [*]; done), by repeat (first | exact Drawn0.refl _ | apply Drawn0.step)⟩

end Go.Proofs.Ytlbbjdggebgabaa.P
end

section
namespace Go.Proofs.Ytlbbjdggebgabaa.P
open Go.RowKit Go.Proofs.YtlbbjdggebgabaaW.PrintWords Go.Proofs.YtlbbjdggebgabaaW.PrintLast Go.Proofs.YtlbbjdggebgabaaW.PrintMore
attribute [local go_sem] max2_int min2_int max_two min_two max_three min_three max_four min_four   -- for this text's walks alone
set_option linter.unusedVariables false
set_option linter.unusedSimpArgs false

attribute [local go_sem high] eqA23

-- NOT PRINTED: function 3 (jobshelllaw46_EditorValids)

def jobshelllaw46_lines.l0 : Nat → Int → Int → Int → List ByteArray → Option (Bool)
  | 0, _, _, _, _ => none
  | k + 1, x3, x4, x359000, x359001 => if x4 < (x359001.length : Int) then (if 0 ≤ x4 then (if (wrap64 (x3 + ((rdOf ByteArray.empty x359001 x4).size : Int))) > 20000 then (some false) else (jobshelllaw46_lines.l0 k (wrap64 (x3 + ((rdOf ByteArray.empty x359001 x4).size : Int))) (wrap64 (x4 + 1)) x359000 x359001)) else (none)) else (some true)
def jobshelllaw46_lines.f (k : Nat) (a0_0 : Int) (l0_1 : List ByteArray) : Option (Bool) := if (l0_1.length : Int) > 200 then (some false) else (jobshelllaw46_lines.l0 k 0 0 a0_0 l0_1)
set_option maxHeartbeats 8000000 in
set_option maxRecDepth 100000 in
theorem jobshelllaw46_lines.calls (k : Nat) (a0_0 : Int) (A0_1 : Option Addr) (c0_1 : Nat) (l0_1 : List ByteArray) (r : Bool) (w : World) (hr0_1 : Kd.C Kd.string w A0_1 l0_1.length l0_1) (hc0_1 : l0_1.length ≤ c0_1) (h : jobshelllaw46_lines.f k a0_0 l0_1 = some r) :
    Calls Try.prog 15 #[.agg #[.int .i64 a0_0, .slice A0_1 l0_1.length c0_1]] w fun e w' => e = .returned (.bool r) ∧ Below w.heap.size w w' := by
  have hu38 := Try.underlying38
  have HR0_1 := Aside0.mk hr0_1
  have HC0_1 := Aside0.mk hc0_1
  clear hr0_1 hc0_1
  have HB := Aside0.mk (Below.refl w.heap.size w)
  have H : (if (l0_1.length : Int) > 200 then (some false) else (jobshelllaw46_lines.l0 k 0 0 a0_0 l0_1)) = some r := h
  clear h
  by_cases c2 : (l0_1.length : Int) > 200
  · rw [if_pos c2] at H
    have c2b0 : decide (200 < (l0_1.length : Int)) = true := decide_eq_true c2
    have c2b1 : decide (200 < l0_1.length) = true := decide_eq_true (by omega)
    clear c2
    obtain rfl := Option.some.inj H
    go_enter Try.func15, Try.ntmps15
    go_wp2_with (first | ((with_reducible refine gate_dst (N := 1) rfl ?_); refine box_event ?hg (N := 1) ?hd (cs := #[.int .i64 a0_0, .slice A0_1 l0_1.length c0_1]) (t := 38) ?hr ?_; (case hd => rfl); (case hg => rfl); (case hr => first | (go_simp; done) | (go_simp; rfl)); intro gb358 hg w3 hbox hb; have n0_ := Aside0.mk (below_step (by repeat (first | (with_reducible first | exact HB.out | apply below_alloc | apply pw_below_drewN | apply below_drew1) | exact HB.out)) hb); have n1_ := Aside0.mk (hbox); have n2_ := Aside0.mk ((by rw [hg]; exact (below_size (by repeat (first | (with_reducible first | exact HB.out | apply below_alloc | apply pw_below_drewN | apply below_drew1) | exact HB.out))) : w.heap.size ≤ gb358)); have n3_ := Aside0.mk ((by rw [hg]; exact (below_size (by repeat (first | (with_reducible first | exact HB.out | apply below_alloc | apply pw_below_drewN | apply below_drew1) | exact HB.out))) : w.heap.size ≤ gb358)); clear HB; have HB := n0_; have BK358 := n1_; have GW358 := n2_; have GE358 := n3_; clear n0_ n1_ n2_ n3_; clear hb hbox hg; have hcz4_0 : w3.cell? ⟨gb358, 0, none⟩ = some (.int .i64 a0_0) := (blk_cell BK358.out 0).trans rfl; have hcz4_1 : w3.cell? ⟨gb358, 1, none⟩ = some (.slice A0_1 l0_1.length c0_1) := (blk_cell BK358.out 1).trans rfl; have hfz4_0 := blk_frozen BK358.out 0; have hfz4_1 := blk_frozen BK358.out 1))
    go_ret
    exact ⟨by first | rfl | (simp [errW_none, errW_some] <;> rfl) | (simp [*, errW_none, errW_some] <;> rfl), by repeat (first | (with_reducible first | exact HB.out | apply below_alloc | apply pw_below_drewN | apply below_drew1 | refine below_set ?_ GE358.out) | exact HB.out)⟩
  · rw [if_neg c2] at H
    have c2b0 : decide (200 < (l0_1.length : Int)) = false := decide_eq_false c2
    have c2b1 : decide (200 < l0_1.length) = false := decide_eq_false (by omega)
    clear c2
    have H' := Aside0.mk H
    clear H
    go_enter Try.func15, Try.ntmps15
    go_wp2_with (first | ((with_reducible refine gate_dst (N := 1) rfl ?_); refine box_event ?hg (N := 1) ?hd (cs := #[.int .i64 a0_0, .slice A0_1 l0_1.length c0_1]) (t := 38) ?hr ?_; (case hd => rfl); (case hg => rfl); (case hr => first | (go_simp; done) | (go_simp; rfl)); intro gb358 hg w5 hbox hb; have n0_ := Aside0.mk (below_step (by repeat (first | (with_reducible first | exact HB.out | apply below_alloc | apply pw_below_drewN | apply below_drew1) | exact HB.out)) hb); have n1_ := Aside0.mk (hbox); have n2_ := Aside0.mk ((by rw [hg]; exact (below_size (by repeat (first | (with_reducible first | exact HB.out | apply below_alloc | apply pw_below_drewN | apply below_drew1) | exact HB.out))) : w.heap.size ≤ gb358)); have n3_ := Aside0.mk ((by rw [hg]; exact (below_size (by repeat (first | (with_reducible first | exact HB.out | apply below_alloc | apply pw_below_drewN | apply below_drew1) | exact HB.out))) : w.heap.size ≤ gb358)); clear HB; have HB := n0_; have BK358 := n1_; have GW358 := n2_; have GE358 := n3_; clear n0_ n1_ n2_ n3_; clear hb hbox hg; have hcz6_0 : w5.cell? ⟨gb358, 0, none⟩ = some (.int .i64 a0_0) := (blk_cell BK358.out 0).trans rfl; have hcz6_1 : w5.cell? ⟨gb358, 1, none⟩ = some (.slice A0_1 l0_1.length c0_1) := (blk_cell BK358.out 1).trans rfl; have hfz6_0 := blk_frozen BK358.out 0; have hfz6_1 := blk_frozen BK358.out 1))
    go_loopg [3, 4] k (fun kq v3 v4 w' => ∃ (x3_1 : Int) (x4_1 : Int), v3 = .int .i64 x3_1 ∧ v4 = .int .i64 x4_1 ∧ Aside0 (jobshelllaw46_lines.l0 kq x3_1 x4_1 a0_0 l0_1 = some r) ∧ Aside0 (kq ≤ k) ∧ Aside0 (w'.heap[gb358]? = some (.cells #[.int .i64 a0_0, (.slice A0_1 l0_1.length c0_1)] 38 (0, 0))) ∧ Aside0 (Below w.heap.size w w'))
    case atStart => exact ⟨(0), (0), (by first | rfl | (simp; done) | (simp [*]; done)), (by first | rfl | (simp; done) | (simp [*]; done)), H', ⟨Nat.le_refl _⟩, ⟨by (with_reducible repeat (first | refine blk_drewN ?_ _ | refine blk_drew ?_ | refine blk_alloc ?_ _)); exact BK358.out⟩, ⟨by repeat (first | (with_reducible first | exact HB.out | apply below_alloc | apply pw_below_drewN | apply below_drew1 | refine below_set ?_ GE358.out) | exact HB.out)⟩⟩
    case round =>
      clear H'
      try clear c1
      try clear c2
      try clear c2b0
      try clear c2b1
      try clear p2
      try clear hcz4_0
      try clear hcz4_1
      try clear hcz6_0
      try clear hcz6_1
      try clear hfz4_0
      try clear hfz4_1
      try clear hfz6_0
      try clear hfz6_1
      obtain ⟨x3_1, x4_1, rfl, rfl, HA, HK1, BK358, HB⟩ := hrel
      cases gk with
      | zero => exact absurd HA.out (by simp [jobshelllaw46_lines.l0])
      | succ k1 =>
        have H := HA.out
        clear HA
        simp only [jobshelllaw46_lines.l0] at H
        by_cases c7 : x4_1 < (l0_1.length : Int)
        · rw [if_pos c7] at H
          have c7b0 : decide (x4_1 < (l0_1.length : Int)) = true := decide_eq_true c7
          clear c7
          by_cases c8 : 0 ≤ x4_1
          · rw [if_pos c8] at H
            have c8b0 : decide (0 ≤ x4_1) = true := decide_eq_true c8
            clear c8
            by_cases c9 : (wrap64 (x3_1 + ((rdOf ByteArray.empty l0_1 x4_1).size : Int))) > 20000
            · rw [if_pos c9] at H
              have c9b0 : decide (20000 < (wrap64 (x3_1 + ((rdOf ByteArray.empty l0_1 x4_1).size : Int)))) = true := decide_eq_true c9
              clear c9
              obtain rfl := Option.some.inj H
              have hcz10_0 : wr.cell? ⟨gb358, 0, none⟩ = some (.int .i64 a0_0) := (blk_cell BK358.out 0).trans rfl
              have hcz10_1 : wr.cell? ⟨gb358, 1, none⟩ = some (.slice A0_1 l0_1.length c0_1) := (blk_cell BK358.out 1).trans rfl
              have hfz10_0 := blk_frozen BK358.out 0
              have hfz10_1 := blk_frozen BK358.out 1
              have p359 : 0 ≤ (x4_1 : Int) := of_decide_eq_true (by first | (with_reducible assumption) | assumption)
              have q359 : x4_1 < (l0_1.length : Int) := of_decide_eq_true (by first | (with_reducible assumption) | assumption)
              obtain ⟨ad359, e359, hx359_0⟩ := Kd.at_string HR0_1.out x4_1 p359 q359
              cases e359
              replace hx359_0 := (HB.out.cell (World.block_lt_of_cell? w _ hx359_0)).trans hx359_0
              replace p359 := eq_true p359
              replace q359 := eq_true q359
              go_wp2
              go_ret
              exact ⟨by first | rfl | (simp [errW_none, errW_some] <;> rfl) | (simp [*, errW_none, errW_some] <;> rfl), by repeat (first | (with_reducible first | exact HB.out | apply below_alloc | apply pw_below_drewN | apply below_drew1 | refine below_set ?_ GE358.out) | exact HB.out)⟩
            · rw [if_neg c9] at H
              have c9b0 : decide (20000 < (wrap64 (x3_1 + ((rdOf ByteArray.empty l0_1 x4_1).size : Int)))) = false := decide_eq_false c9
              clear c9
              have H' := Aside0.mk H
              clear H
              have hcz11_0 : wr.cell? ⟨gb358, 0, none⟩ = some (.int .i64 a0_0) := (blk_cell BK358.out 0).trans rfl
              have hcz11_1 : wr.cell? ⟨gb358, 1, none⟩ = some (.slice A0_1 l0_1.length c0_1) := (blk_cell BK358.out 1).trans rfl
              have hfz11_0 := blk_frozen BK358.out 0
              have hfz11_1 := blk_frozen BK358.out 1
              have p359 : 0 ≤ (x4_1 : Int) := of_decide_eq_true (by first | (with_reducible assumption) | assumption)
              have q359 : x4_1 < (l0_1.length : Int) := of_decide_eq_true (by first | (with_reducible assumption) | assumption)
              obtain ⟨ad359, e359, hx359_0⟩ := Kd.at_string HR0_1.out x4_1 p359 q359
              cases e359
              replace hx359_0 := (HB.out.cell (World.block_lt_of_cell? w _ hx359_0)).trans hx359_0
              replace p359 := eq_true p359
              replace q359 := eq_true q359
              go_wp2
              go_roundg k1
              case measure => have := HK1.out; omega
              case rel => exact ⟨(wrap64 (x3_1 + ((rdOf ByteArray.empty l0_1 x4_1).size : Int))), (wrap64 (x4_1 + 1)), (by first | rfl | (simp; done) | (simp [*]; done)), (by first | rfl | (simp; done) | (simp [*]; done)), H', ⟨by have := HK1.out; omega⟩, ⟨by (with_reducible repeat (first | refine blk_drewN ?_ _ | refine blk_drew ?_ | refine blk_alloc ?_ _)); exact BK358.out⟩, ⟨by repeat (first | (with_reducible first | exact HB.out | apply below_alloc | apply pw_below_drewN | apply below_drew1 | refine below_set ?_ GE358.out) | exact HB.out)⟩⟩
          · rw [if_neg c8] at H
            exact absurd H (by simp)
        · rw [if_neg c7] at H
          have c7b0 : decide (x4_1 < (l0_1.length : Int)) = false := decide_eq_false c7
          clear c7
          obtain rfl := Option.some.inj H
          have hcz12_0 : wr.cell? ⟨gb358, 0, none⟩ = some (.int .i64 a0_0) := (blk_cell BK358.out 0).trans rfl
          have hcz12_1 : wr.cell? ⟨gb358, 1, none⟩ = some (.slice A0_1 l0_1.length c0_1) := (blk_cell BK358.out 1).trans rfl
          have hfz12_0 := blk_frozen BK358.out 0
          have hfz12_1 := blk_frozen BK358.out 1
          go_wp2
          go_ret
          exact ⟨by first | rfl | (simp [errW_none, errW_some] <;> rfl) | (simp [*, errW_none, errW_some] <;> rfl), by repeat (first | (with_reducible first | exact HB.out | apply below_alloc | apply pw_below_drewN | apply below_drew1 | refine below_set ?_ GE358.out) | exact HB.out)⟩

end Go.Proofs.Ytlbbjdggebgabaa.P
end

section
/- Plain facts: what Valid, the reference's Valid, few and lines tell. -/
namespace Go.Proofs.Ytlbbjdggebgabaa.P
open Go.RowKit Go.Proofs.YtlbbjdggebgabaaW.PrintWords Go.Proofs.YtlbbjdggebgabaaW.PrintLast Go.Proofs.YtlbbjdggebgabaaW.PrintMore
set_option linter.unusedVariables false
set_option linter.unusedSimpArgs false

def longB (l : List S23) : Bool := l.any fun s => decide ((s.f0.size : Int) > 4096)
def outB (l : List S23) : Bool := l.any fun s => decide (s.f1 < 0) || decide (s.f1 > (s.f0.size : Int))
def killL (l : List ByteArray) : Bool := l.any fun x => decide ((x.size : Int) > 4096)
theorem wrap_in {x : Int} (h0 : -9223372036854775808 ≤ x) (h1 : x ≤ 9223372036854775807) : wrap64 x = x := by unfold wrap64; omega
theorem drop_at {α : Type} (d : α) (l : List α) (i : Nat) (h : i < l.length) : l.drop i = l.getD i d :: l.drop (i + 1) := by
  rw [List.drop_eq_getElem_cons h]
  simp [List.getD, h]
theorem wrap_next (i : Nat) (h : i < 1000000000000000000) : wrap64 ((i : Int) + 1) = ((i + 1 : Nat) : Int) := by rw [wrap_in (by omega) (by omega)]; push_cast; rfl

theorem long_l0 (l : List S23) (hl : l.length ≤ 1000000000000000) : ∀ n i k, l.length = i + n → n < k → editor_long.l0 k l (l.length : Int) (i : Int) = some (longB (l.drop i))
  | 0, i, k + 1, h, _ => by
    rw [editor_long.l0, if_neg (by omega), List.drop_eq_nil_of_le (by omega)]
    rfl
  | n + 1, i, k + 1, h, hk => by
    have hd := drop_at z23 l i (by omega)
    rw [editor_long.l0, if_pos (by omega), if_pos (by omega), if_pos (by omega), wrap_next i (by omega), long_l0 l hl n (i + 1) k (by omega) (by omega), hd]
    have e : rd_T23 l (i : Int) = l.getD i z23 := rfl
    rw [e]
    unfold longB
    rw [List.any_cons]
    by_cases hc : ((l.getD i z23).f0.size : Int) > 4096
    · rw [if_pos hc, decide_eq_true hc]; rfl
    · rw [if_neg hc, decide_eq_false hc]; rfl
theorem long_f (l : List S23) (k : Nat) (hl : l.length ≤ 1000000000000000) (hk : l.length < k) : editor_long.f k l = some (longB l) := by
  have h := long_l0 l hl l.length 0 k (by omega) hk
  exact h
theorem outside_l0 (l : List S23) (hl : l.length ≤ 1000000000000000) : ∀ n i k, l.length = i + n → n < k → editor_outside.l0 k l (l.length : Int) (i : Int) = some (outB (l.drop i))
  | 0, i, k + 1, h, _ => by
    rw [editor_outside.l0, if_neg (by omega), List.drop_eq_nil_of_le (by omega)]
    rfl
  | n + 1, i, k + 1, h, hk => by
    have hd := drop_at z23 l i (by omega)
    rw [editor_outside.l0, if_pos (by omega), if_pos (by omega), if_pos (by omega), wrap_next i (by omega), outside_l0 l hl n (i + 1) k (by omega) (by omega), hd]
    have e : rd_T23 l (i : Int) = l.getD i z23 := rfl
    rw [e]
    unfold outB
    rw [List.any_cons]
    by_cases hc : (l.getD i z23).f1 < 0
    · rw [if_pos hc, decide_eq_true hc]; rfl
    · rw [if_neg hc, decide_eq_false hc]
      by_cases hc2 : (l.getD i z23).f1 > ((l.getD i z23).f0.size : Int)
      · rw [if_pos hc2, decide_eq_true hc2]; rfl
      · rw [if_neg hc2, decide_eq_false hc2]; rfl
theorem outside_f (l : List S23) (k : Nat) (hl : l.length ≤ 1000000000000000) (hk : l.length < k) : editor_outside.f k l = some (outB l) := outside_l0 l hl l.length 0 k (by omega) hk
theorem short_l0 (l : List ByteArray) (hl : l.length ≤ 1000000000000000) : ∀ n i k, l.length = i + n → n < k → jobshellref46_short.l0 k l (i : Int) = some (!killL (l.drop i))
  | 0, i, k + 1, h, _ => by
    rw [jobshellref46_short.l0, if_neg (by omega), List.drop_eq_nil_of_le (by omega)]
    rfl
  | n + 1, i, k + 1, h, hk => by
    have hd := drop_at ByteArray.empty l i (by omega)
    rw [jobshellref46_short.l0, if_pos (by omega), if_pos (by omega), wrap_next i (by omega), short_l0 l hl n (i + 1) k (by omega) (by omega), hd]
    have e : rdOf ByteArray.empty l (i : Int) = l.getD i ByteArray.empty := rfl
    rw [e]
    unfold killL
    rw [List.any_cons]
    by_cases hc : ((l.getD i ByteArray.empty).size : Int) > 4096
    · rw [if_pos hc, decide_eq_true hc]; rfl
    · rw [if_neg hc, decide_eq_false hc]; rfl
theorem short_f (l : List ByteArray) (k : Nat) (hl : l.length ≤ 1000000000000000) (hk : l.length < k) : jobshellref46_short.f k l = some (!killL l) := short_l0 l hl l.length 0 k (by omega) hk
theorem snaps3_l0 (l : List S23) (hl : l.length ≤ 1000000000000000) : ∀ n i k, l.length = i + n → n < k → jobshellref46_snaps.l0 k l 3 (i : Int) = some (!longB (l.drop i))
  | 0, i, k + 1, h, _ => by
    rw [jobshellref46_snaps.l0, if_neg (by omega), List.drop_eq_nil_of_le (by omega)]
    rfl
  | n + 1, i, k + 1, h, hk => by
    have hd := drop_at z23 l i (by omega)
    rw [jobshellref46_snaps.l0, if_pos (by omega), if_pos (by omega), wrap_next i (by omega), snaps3_l0 l hl n (i + 1) k (by omega) (by omega), hd]
    have e : rd_T23 l (i : Int) = l.getD i z23 := rfl
    rw [e]
    unfold longB jobshellref46_snap.f
    rw [List.any_cons, if_pos rfl, Option.bind_some]
    by_cases hc : ((l.getD i z23).f0.size : Int) > 4096
    · rw [decide_eq_true hc, decide_eq_false (by omega)]; rfl
    · rw [decide_eq_false hc, decide_eq_true (by omega)]; rfl
theorem snaps3_f (l : List S23) (k : Nat) (hl : l.length ≤ 1000000000000000) (hk : l.length < k) : jobshellref46_snaps.f k l 3 = some (!longB l) := snaps3_l0 l hl l.length 0 k (by omega) hk
theorem snap2_f (a : ByteArray) (b : Int) : jobshellref46_snap.f a b 2 = some (!outB [⟨a, b⟩]) := by
  unfold jobshellref46_snap.f outB
  rw [if_neg (by decide)]
  by_cases h0 : b ≥ 0
  · rw [if_pos h0]
    by_cases h1 : b ≤ (a.size : Int)
    · rw [decide_eq_true h1]; simp [show ¬ b < 0 by omega, show ¬ b > (a.size : Int) by omega]
    · rw [decide_eq_false h1]; simp [show ¬ b < 0 by omega, show b > (a.size : Int) by omega]
  · rw [if_neg h0]; simp [show b < 0 by omega]
theorem snaps2_l0 (l : List S23) (hl : l.length ≤ 1000000000000000) : ∀ n i k, l.length = i + n → n < k → jobshellref46_snaps.l0 k l 2 (i : Int) = some (!outB (l.drop i))
  | 0, i, k + 1, h, _ => by
    rw [jobshellref46_snaps.l0, if_neg (by omega), List.drop_eq_nil_of_le (by omega)]
    rfl
  | n + 1, i, k + 1, h, hk => by
    have hd := drop_at z23 l i (by omega)
    rw [jobshellref46_snaps.l0, if_pos (by omega), if_pos (by omega), wrap_next i (by omega), snaps2_l0 l hl n (i + 1) k (by omega) (by omega), hd]
    have e : rd_T23 l (i : Int) = l.getD i z23 := rfl
    rw [e, snap2_f, Option.bind_some]
    unfold outB
    simp only [List.any_cons, List.any_nil, Bool.or_false]
    cases (decide ((l.getD i z23).f1 < 0) || decide ((l.getD i z23).f1 > ((l.getD i z23).f0.size : Int))) <;> rfl
theorem snaps2_f (l : List S23) (k : Nat) (hl : l.length ≤ 1000000000000000) (hk : l.length < k) : jobshellref46_snaps.f k l 2 = some (!outB l) := snaps2_l0 l hl l.length 0 k (by omega) hk

def tooLong (s : St) : Bool := longB [⟨s.text, s.pos⟩] || longB s.undo || longB s.redo || decide ((s.saved.size : Int) > 4096) || decide ((s.keys.size : Int) > 16) || killL s.kills
def offRange (s : St) : Bool := outB [⟨s.text, s.pos⟩] || outB s.undo || outB s.redo || decide (s.mark < 0) || decide (s.mark > (s.text.size : Int)) || decide (s.last < 0) || decide (s.last > 28) || decide (s.line < 0) || decide (s.line > 128)
def tooMany (s : St) : Bool := decide ((s.kills.length : Int) > 16) || decide ((s.undo.length : Int) > 64) || decide ((s.redo.length : Int) > 64)
def validI (s : St) : Int := if tooLong s then 3 else if offRange s then 2 else if tooMany s then 4 else 0

def sumK (l : List ByteArray) : Int := (l.map fun x => (x.size : Int)).sum
def sumN (l : List S23) : Int := (l.map fun s => (s.f0.size : Int)).sum
theorem sumK_nn : ∀ l, 0 ≤ sumK l
  | [] => by decide
  | x :: l => by have := sumK_nn l; unfold sumK at *; rw [List.map_cons, List.sum_cons]; omega
theorem sumN_nn : ∀ l, 0 ≤ sumN l
  | [] => by decide
  | x :: l => by have := sumN_nn l; unfold sumN at *; rw [List.map_cons, List.sum_cons]; omega
theorem sumK_cons (x : ByteArray) (l : List ByteArray) : sumK (x :: l) = (x.size : Int) + sumK l := by unfold sumK; rw [List.map_cons, List.sum_cons]
theorem sumN_cons (x : S23) (l : List S23) : sumN (x :: l) = (x.f0.size : Int) + sumN l := by unfold sumN; rw [List.map_cons, List.sum_cons]
theorem sumK_le (B : Int) : ∀ l : List ByteArray, (∀ x ∈ l, (x.size : Int) ≤ B) → sumK l ≤ B * (l.length : Int)
  | [], _ => by simp [sumK]
  | y :: l, h => by
    have h1 := sumK_le B l (fun x hx => h x (List.mem_cons_of_mem _ hx))
    have h2 := h y List.mem_cons_self
    rw [sumK_cons, List.length_cons]
    push_cast
    rw [Int.mul_add, Int.mul_one]
    omega
theorem sumN_le (B : Int) : ∀ l : List S23, (∀ x ∈ l, (x.f0.size : Int) ≤ B) → sumN l ≤ B * (l.length : Int)
  | [], _ => by simp [sumN]
  | y :: l, h => by
    have h1 := sumN_le B l (fun x hx => h x (List.mem_cons_of_mem _ hx))
    have h2 := h y List.mem_cons_self
    rw [sumN_cons, List.length_cons]
    push_cast
    rw [Int.mul_add, Int.mul_one]
    omega
theorem few_l2 (s : St) (hl : s.redo.length ≤ 1000) : ∀ n i k (a : Int), s.redo.length = i + n → n < k → 0 ≤ a → a + sumN (s.redo.drop i) ≤ 1000000000000000000 →
    jobshelllaw46_few.l2 k a (i : Int) s.text s.pos s.mark s.kills s.undo s.redo s.keys s.last s.line s.saved = some (decide (a + sumN (s.redo.drop i) ≤ 30000))
  | 0, i, k + 1, a, h, _, _, _ => by
    rw [jobshelllaw46_few.l2, if_neg (by omega), List.drop_eq_nil_of_le (by omega)]
    have : a + sumN [] = a := by unfold sumN; simp
    rw [this]
  | n + 1, i, k + 1, a, h, hk, h0, h1 => by
    have hd := drop_at z23 s.redo i (by omega)
    rw [hd, sumN_cons] at h1 ⊢
    have hn := sumN_nn (s.redo.drop (i + 1))
    have e : rd_T23 s.redo (i : Int) = s.redo.getD i z23 := rfl
    rw [jobshelllaw46_few.l2, if_pos (by omega), if_pos (by omega), wrap_next i (by omega), e, wrap_in (by omega) (by omega), few_l2 s hl n (i + 1) k _ (by omega) (by omega) (by omega) (by omega), Int.add_assoc]
theorem few_l1 (s : St) (hl : s.undo.length ≤ 1000) (hl2 : s.redo.length ≤ 1000) : ∀ n i k (a : Int), s.undo.length = i + n → n + s.redo.length + 1 < k → 0 ≤ a → a + sumN (s.undo.drop i) + sumN s.redo ≤ 1000000000000000000 →
    jobshelllaw46_few.l1 k a (i : Int) s.text s.pos s.mark s.kills s.undo s.redo s.keys s.last s.line s.saved = some (decide (a + sumN (s.undo.drop i) + sumN s.redo ≤ 30000))
  | 0, i, k + 1, a, h, hk, h0, h1 => by
    rw [List.drop_eq_nil_of_le (by omega)] at h1 ⊢
    have e : a + sumN [] = a := by unfold sumN; simp
    rw [e] at h1 ⊢
    have h2 := few_l2 s hl2 s.redo.length 0 k a (by omega) (by omega) h0 (by rw [List.drop_zero]; exact h1)
    rw [List.drop_zero] at h2
    rw [jobshelllaw46_few.l1, if_neg (by omega)]
    exact h2
  | n + 1, i, k + 1, a, h, hk, h0, h1 => by
    have hd := drop_at z23 s.undo i (by omega)
    rw [hd, sumN_cons] at h1 ⊢
    have hn := sumN_nn (s.undo.drop (i + 1))
    have hn2 := sumN_nn s.redo
    have e : rd_T23 s.undo (i : Int) = s.undo.getD i z23 := rfl
    rw [jobshelllaw46_few.l1, if_pos (by omega), if_pos (by omega), wrap_next i (by omega), e, wrap_in (by omega) (by omega), few_l1 s hl hl2 n (i + 1) k _ (by omega) (by omega) (by omega) (by omega), Int.add_assoc a]
theorem few_l0 (s : St) (hl0 : s.kills.length ≤ 1000) (hl : s.undo.length ≤ 1000) (hl2 : s.redo.length ≤ 1000) : ∀ n i k (a : Int), s.kills.length = i + n → n + s.undo.length + s.redo.length + 2 < k → 0 ≤ a → a + sumK (s.kills.drop i) + sumN s.undo + sumN s.redo ≤ 1000000000000000000 →
    jobshelllaw46_few.l0 k a (i : Int) s.text s.pos s.mark s.kills s.undo s.redo s.keys s.last s.line s.saved = some (decide (a + sumK (s.kills.drop i) + sumN s.undo + sumN s.redo ≤ 30000))
  | 0, i, k + 1, a, h, hk, h0, h1 => by
    rw [List.drop_eq_nil_of_le (by omega)] at h1 ⊢
    have e : a + sumK [] = a := by unfold sumK; simp
    rw [e] at h1 ⊢
    have h2 := few_l1 s hl hl2 s.undo.length 0 k a (by omega) (by omega) h0 (by rw [List.drop_zero]; exact h1)
    rw [List.drop_zero] at h2
    rw [jobshelllaw46_few.l0, if_neg (by omega)]
    exact h2
  | n + 1, i, k + 1, a, h, hk, h0, h1 => by
    have hd := drop_at ByteArray.empty s.kills i (by omega)
    rw [hd, sumK_cons] at h1 ⊢
    have hn := sumK_nn (s.kills.drop (i + 1))
    have hn1 := sumN_nn s.undo
    have hn2 := sumN_nn s.redo
    have e : rdOf ByteArray.empty s.kills (i : Int) = s.kills.getD i ByteArray.empty := rfl
    rw [jobshelllaw46_few.l0, if_pos (by omega), if_pos (by omega), wrap_next i (by omega), e, wrap_in (by omega) (by omega), few_l0 s hl0 hl hl2 n (i + 1) k _ (by omega) (by omega) (by omega) (by omega), Int.add_assoc a]
/-- What the statement's sizes say of an editor. -/
structure FewS (s : St) : Prop where
  kills : s.kills.length ≤ 70
  undo : s.undo.length ≤ 70
  redo : s.redo.length ≤ 70
  total : (s.text.size : Int) + (s.saved.size : Int) + (s.keys.size : Int) + sumK s.kills + sumN s.undo + sumN s.redo ≤ 30000
/-- An editor that a machine can hold. -/
structure Held (s : St) : Prop where
  text : s.text.size ≤ 140737488351232
  keys : s.keys.size ≤ 140737488351232
  saved : s.saved.size ≤ 140737488351232
  kills : s.kills.length ≤ 140737488351232
  undo : s.undo.length ≤ 140737488351232
  redo : s.redo.length ≤ 140737488351232
  lines : s.lines.length ≤ 140737488351232
  eachK : ∀ x ∈ s.kills, x.size ≤ 140737488351232
  eachU : ∀ x ∈ s.undo, x.f0.size ≤ 140737488351232
  eachR : ∀ x ∈ s.redo, x.f0.size ≤ 140737488351232
theorem few_f (s : St) (hs : Held s) : ∃ r, jobshelllaw46_few.f 1000 s.text s.pos s.mark s.kills s.undo s.redo s.keys s.last s.line s.saved = some r ∧ (r = true ↔ FewS s) := by
  have hj1 : jobshelllaw46_few.j0 1000 true s.text s.pos s.mark s.kills s.undo s.redo s.keys s.last s.line s.saved = some false := by rw [jobshelllaw46_few.j0, if_pos rfl]
  unfold jobshelllaw46_few.f
  by_cases h1 : (s.kills.length : Int) > 70
  · rw [if_pos h1, hj1]
    exact ⟨false, rfl, fun h => by simp at h, fun h => by have := h.kills; omega⟩
  · rw [if_neg h1]
    by_cases h2 : (s.undo.length : Int) > 70
    · rw [if_pos h2, hj1]
      exact ⟨false, rfl, fun h => by simp at h, fun h => by have := h.undo; omega⟩
    · rw [if_neg h2]
      by_cases h3 : (s.redo.length : Int) > 70
      · rw [decide_eq_true h3, hj1]
        exact ⟨false, rfl, fun h => by simp at h, fun h => by have := h.redo; omega⟩
      · rw [decide_eq_false h3]
        have k1 := sumK_le 140737488351232 s.kills (fun x hx => by have := hs.eachK x hx; omega)
        have k2 := sumN_le 140737488351232 s.undo (fun x hx => by have := hs.eachU x hx; omega)
        have k3 := sumN_le 140737488351232 s.redo (fun x hx => by have := hs.eachR x hx; omega)
        have t1 := hs.text
        have t2 := hs.keys
        have t3 := hs.saved
        have hl := few_l0 s (by omega) (by omega) (by omega) s.kills.length 0 999 ((s.text.size : Int) + (s.saved.size : Int) + (s.keys.size : Int)) (by omega) (by omega) (by omega) (by rw [List.drop_zero]; omega)
        rw [List.drop_zero] at hl
        refine ⟨decide ((s.text.size : Int) + (s.saved.size : Int) + (s.keys.size : Int) + sumK s.kills + sumN s.undo + sumN s.redo ≤ 30000), ?_, ?_⟩
        · rw [jobshelllaw46_few.j0, if_neg (by decide), wrap_in (x := (s.text.size : Int) + (s.saved.size : Int)) (by omega) (by omega), wrap_in (by omega) (by omega)]
          exact hl
        · rw [decide_eq_true_eq]
          exact ⟨fun h => ⟨by omega, by omega, by omega, h⟩, fun h => h.total⟩
theorem lines_l0 (off : Int) (l : List ByteArray) (hl : l.length ≤ 1000) : ∀ n i k (a : Int), l.length = i + n → n < k → ∃ r, jobshelllaw46_lines.l0 k a (i : Int) off l = some r
  | 0, i, k + 1, a, h, _ => by
    rw [jobshelllaw46_lines.l0, if_neg (by omega)]
    exact ⟨_, rfl⟩
  | n + 1, i, k + 1, a, h, hk => by
    rw [jobshelllaw46_lines.l0, if_pos (by omega), if_pos (by omega), wrap_next i (by omega)]
    split
    · exact ⟨_, rfl⟩
    · exact lines_l0 off l hl n (i + 1) k _ (by omega) (by omega)
theorem lines_f (off : Int) (l : List ByteArray) : ∃ r, jobshelllaw46_lines.f 1000 off l = some r ∧ (r = true → l.length ≤ 200) := by
  unfold jobshelllaw46_lines.f
  by_cases h : (l.length : Int) > 200
  · rw [if_pos h]
    exact ⟨false, rfl, fun h => by simp at h⟩
  · rw [if_neg h]
    obtain ⟨r, hr⟩ := lines_l0 off l (by omega) l.length 0 1000 0 (by omega) (by omega)
    exact ⟨r, hr, fun _ => by omega⟩
/-- An editor that the statements speak of. -/
structure Good (s : St) : Prop where
  text : s.text.size ≤ 4096
  undoL : longB s.undo = false
  redoL : longB s.redo = false
  saved : s.saved.size ≤ 4096
  keys : s.keys.size ≤ 16
  killsL : killL s.kills = false
  low : 0 ≤ s.pos
  high : s.pos ≤ s.text.size
  undoO : outB s.undo = false
  redoO : outB s.redo = false
  mark0 : 0 ≤ s.mark
  mark1 : s.mark ≤ s.text.size
  last0 : 0 ≤ s.last
  last1 : s.last ≤ 28
  line0 : 0 ≤ s.line
  line1 : s.line ≤ 128
  kills : s.kills.length ≤ 16
  undo : s.undo.length ≤ 64
  redo : s.redo.length ≤ 64
theorem good_of (s : St) (h : validI s = 0) : Good s := by
  unfold validI at h
  split at h
  · simp at h
  · rename_i h1
    split at h
    · simp at h
    · rename_i h2
      split at h
      · simp at h
      · rename_i h3
        simp only [tooLong, offRange, tooMany, Bool.or_eq_true, not_or, decide_eq_true_eq, Bool.not_eq_true] at h1 h2 h3
        obtain ⟨⟨⟨⟨⟨a1, a2⟩, a3⟩, a4⟩, a5⟩, a6⟩ := h1
        obtain ⟨⟨⟨⟨⟨⟨⟨⟨b1, b2⟩, b3⟩, b4⟩, b5⟩, b6⟩, b7⟩, b8⟩, b9⟩ := h2
        obtain ⟨⟨c1, c2⟩, c3⟩ := h3
        have a1' : ¬ ((s.text.size : Int) > 4096) := by simpa [longB] using a1
        have b1' : ¬ (s.pos < 0) ∧ ¬ (s.pos > (s.text.size : Int)) := by simpa [outB] using b1
        exact ⟨by omega, a2, a3, by omega, by omega, a6, by omega, by omega, b2, b3, by omega, by omega, by omega, by omega, by omega, by omega, by omega, by omega, by omega⟩
theorem killL_mem {l : List ByteArray} (h : killL l = false) : ∀ x ∈ l, x.size ≤ 4096 := by
  intro x hx
  have := List.any_eq_false.mp h x hx
  simp only [decide_eq_true_eq] at this
  omega
theorem Good.ok {s : St} (h : Good s) (hl : s.lines.length ≤ 200) : OkS s := by
  have g1 := h.text
  have g2 := h.line1
  have g12 := h.kills
  have g13 := h.undo
  have g14 := h.redo
  exact ⟨by omega, by omega, by omega, fun k hk => by have := killL_mem h.killsL k hk; omega, h.low, h.high, by omega, by omega, h.line0, by omega⟩
end Go.Proofs.Ytlbbjdggebgabaa.P
end

section
/- Validity of editors: short contracts. -/
namespace Go.Proofs.Ytlbbjdggebgabaa.P
open Go.RowKit Go.Proofs.YtlbbjdggebgabaaW.PrintWords Go.Proofs.YtlbbjdggebgabaaW.PrintLast Go.Proofs.YtlbbjdggebgabaaW.PrintMore
set_option linter.unusedVariables false
set_option linter.unusedSimpArgs false

theorem cells10 {W : World} {b : Nat} {z0 z1 z2 z3 z4 z5 z6 z7 z8 z9 : Value} (h : W.heap[b]? = some (.cells #[z0, z1, z2, z3, z4, z5, z6, z7, z8, z9] 27 (0, 0))) : W.cell? ⟨b, 0, none⟩ = some z0 ∧ W.cell? ⟨b, 1, none⟩ = some z1 ∧ W.cell? ⟨b, 2, none⟩ = some z2 ∧ W.cell? ⟨b, 3, none⟩ = some z3 ∧ W.cell? ⟨b, 4, none⟩ = some z4 ∧ W.cell? ⟨b, 5, none⟩ = some z5 ∧ W.cell? ⟨b, 6, none⟩ = some z6 ∧ W.cell? ⟨b, 7, none⟩ = some z7 ∧ W.cell? ⟨b, 8, none⟩ = some z8 ∧ W.cell? ⟨b, 9, none⟩ = some z9 :=
  ⟨(blk_cell h 0).trans rfl, (blk_cell h 1).trans rfl, (blk_cell h 2).trans rfl, (blk_cell h 3).trans rfl, (blk_cell h 4).trans rfl, (blk_cell h 5).trans rfl, (blk_cell h 6).trans rfl, (blk_cell h 7).trans rfl, (blk_cell h 8).trans rfl, (blk_cell h 9).trans rfl⟩
theorem drawn_below {w w' : World} (h : Drawn0 w w') : Below w.heap.size w w' := by
  obtain ⟨m, rfl⟩ := h.out
  exact pw_below_drewN (Below.refl _ _) m
theorem one_box (w : World) (A : Array Value) (t : TypeId) : (w.alloc (.cells A t)).heap[w.heap.size]? = some (.cells A t (0, 0)) ∧ Below w.heap.size w (w.alloc (.cells A t)) := ⟨blk_new w _, below_alloc (Below.refl _ _) _⟩
theorem dec_eq {p q : Prop} [Decidable p] [Decidable q] {t : Bool} (h : decide p = t) (hpq : p ↔ q) : decide q = t := by rw [← h]; exact decide_eq_decide.mpr hpq.symm

set_option maxHeartbeats 16000000 in
set_option maxRecDepth 100000 in
theorem rval_calls (w : World) (s : St) (Ak Au Ar : Option Addr) (ck cu cr : Nat) (h1 : Kd.C Kd.string w Ak s.kills.length s.kills) (h1c : s.kills.length ≤ ck) (h2 : Kd.C k23 w Au s.undo.length s.undo) (h2c : s.undo.length ≤ cu) (h3 : Kd.C k23 w Ar s.redo.length s.redo) (h3c : s.redo.length ≤ cr) (l1 : s.kills.length ≤ 1000000000000000) (l2 : s.undo.length ≤ 1000000000000000) (l3 : s.redo.length ≤ 1000000000000000) :
    Calls Try.prog 12 #[.agg #[.string s.text, .int .i64 s.pos, .int .i64 s.mark, .slice Ak s.kills.length ck, .slice Au s.undo.length cu, .slice Ar s.redo.length cr, .string s.keys, .int .i64 s.last, .int .i64 s.line, .string s.saved]] w fun e w' => e = .returned (.int .i64 (validI s)) ∧ Below w.heap.size w w' := by
  have hu27 := Try.underlying27
  have hu23 := Try.underlying23
  obtain ⟨w1, hw1⟩ : ∃ z, z = w.alloc (.cells #[.string s.text, .int .i64 s.pos, .int .i64 s.mark, .slice Ak s.kills.length ck, .slice Au s.undo.length cu, .slice Ar s.redo.length cr, .string s.keys, .int .i64 s.last, .int .i64 s.line, .string s.saved] 27) := ⟨_, rfl⟩
  have hb1 : Below w.heap.size w w1 := by rw [hw1]; exact (one_box w _ _).2
  have HE := Aside0.mk (show w1.heap[w.heap.size]? = some (.cells #[.string s.text, .int .i64 s.pos, .int .i64 s.mark, .slice Ak s.kills.length ck, .slice Au s.undo.length cu, .slice Ar s.redo.length cr, .string s.keys, .int .i64 s.last, .int .i64 s.line, .string s.saved] 27 (0, 0)) from by rw [hw1]; exact (one_box w _ _).1)
  have HB := Aside0.mk hb1
  have J1 := Aside0.mk (Kd.C_below h1 hb1)
  have J2 := Aside0.mk (Kd.C_below h2 hb1)
  have J3 := Aside0.mk (Kd.C_below h3 hb1)
  have HW1 := Aside0.mk hw1
  have hs3 : jobshellref46_snap.f s.text s.pos 3 = some (!longB [⟨s.text, s.pos⟩]) := by
    unfold jobshellref46_snap.f longB
    rw [if_pos rfl]
    by_cases hc : (s.text.size : Int) > 4096
    · rw [decide_eq_false (by omega)]; simp only [List.any_cons, List.any_nil, Bool.or_false]; rw [decide_eq_true hc]; rfl
    · rw [decide_eq_true (by omega)]; simp only [List.any_cons, List.any_nil, Bool.or_false]; rw [decide_eq_false hc]; rfl
  obtain ⟨B1, hB1⟩ : ∃ z, z = (!longB [⟨s.text, s.pos⟩]) := ⟨_, rfl⟩
  obtain ⟨B2, hB2⟩ : ∃ z, z = (!killL s.kills) := ⟨_, rfl⟩
  obtain ⟨B4, hB4⟩ : ∃ z, z = (!longB s.undo) := ⟨_, rfl⟩
  obtain ⟨B5, hB5⟩ : ∃ z, z = (!longB s.redo) := ⟨_, rfl⟩
  obtain ⟨B7, hB7⟩ : ∃ z, z = (!outB [⟨s.text, s.pos⟩]) := ⟨_, rfl⟩
  obtain ⟨B8, hB8⟩ : ∃ z, z = (!outB s.undo) := ⟨_, rfl⟩
  obtain ⟨B9, hB9⟩ : ∃ z, z = (!outB s.redo) := ⟨_, rfl⟩
  obtain ⟨t3, ht3⟩ : ∃ z, decide (4096 < (s.saved.size : Int)) = z := ⟨_, rfl⟩
  have ht3n : decide (4096 < s.saved.size) = t3 := dec_eq ht3 (by omega)
  obtain ⟨t6, ht6⟩ : ∃ z, decide (16 < (s.keys.size : Int)) = z := ⟨_, rfl⟩
  have ht6n : decide (16 < s.keys.size) = t6 := dec_eq ht6 (by omega)
  obtain ⟨ta, hta⟩ : ∃ z, decide (s.mark < 0) = z := ⟨_, rfl⟩
  obtain ⟨tb, htb⟩ : ∃ z, decide ((s.text.size : Int) < s.mark) = z := ⟨_, rfl⟩
  obtain ⟨tc, htc⟩ : ∃ z, decide (s.last < 0) = z := ⟨_, rfl⟩
  obtain ⟨td, htd⟩ : ∃ z, decide (28 < s.last) = z := ⟨_, rfl⟩
  obtain ⟨te, hte⟩ : ∃ z, decide (s.line < 0) = z := ⟨_, rfl⟩
  obtain ⟨tf, htf⟩ : ∃ z, decide (128 < s.line) = z := ⟨_, rfl⟩
  obtain ⟨tg, htg⟩ : ∃ z, decide (16 < (s.kills.length : Int)) = z := ⟨_, rfl⟩
  have htgn : decide (16 < s.kills.length) = tg := dec_eq htg (by omega)
  obtain ⟨th, hth⟩ : ∃ z, decide (64 < (s.undo.length : Int)) = z := ⟨_, rfl⟩
  have hthn : decide (64 < s.undo.length) = th := dec_eq hth (by omega)
  obtain ⟨ti, hti⟩ : ∃ z, decide (64 < (s.redo.length : Int)) = z := ⟨_, rfl⟩
  have htin : decide (64 < s.redo.length) = ti := dec_eq hti (by omega)
  have HV := Aside0.mk (show validI s = if (!B1 || !B4 || !B5 || t3 || t6 || !B2) = true then 3 else if (!B7 || !B8 || !B9 || ta || tb || tc || td || te || tf) = true then 2 else if (tg || th || ti) = true then 4 else 0 from by
    unfold validI tooLong offRange tooMany
    rw [hB1, hB2, hB4, hB5, hB7, hB8, hB9, ← ht3, ← ht6, ← hta, ← htb, ← htc, ← htd, ← hte, ← htf, ← htg, ← hth, ← hti]
    simp only [Bool.not_not, gt_iff_lt])
  have N1 := Aside0.mk (hs3.trans (by rw [← hB1]))
  have N2 := Aside0.mk ((short_f s.kills (s.kills.length + 1) l1 (by omega)).trans (by rw [← hB2]))
  have N4 := Aside0.mk ((snaps3_f s.undo (s.undo.length + 1) l2 (by omega)).trans (by rw [← hB4]))
  have N5 := Aside0.mk ((snaps3_f s.redo (s.redo.length + 1) l3 (by omega)).trans (by rw [← hB5]))
  have N7 := Aside0.mk ((snap2_f s.text s.pos).trans (by rw [← hB7]))
  have N8 := Aside0.mk ((snaps2_f s.undo (s.undo.length + 1) l2 (by omega)).trans (by rw [← hB8]))
  have N9 := Aside0.mk ((snaps2_f s.redo (s.redo.length + 1) l3 (by omega)).trans (by rw [← hB9]))
  clear hs3 hB1 hB2 hB4 hB5 hB7 hB8 hB9 h1 h2 h3 l1 l2 l3 hw1 hb1
  have hc : (B1 = false) ∨ (B1 = true ∧ B2 = false) ∨ (B1 = true ∧ B2 = true ∧ t3 = true) ∨ (B1 = true ∧ B2 = true ∧ t3 = false ∧ B4 = false) ∨ (B1 = true ∧ B2 = true ∧ t3 = false ∧ B4 = true ∧ B5 = false) ∨ (B1 = true ∧ B2 = true ∧ t3 = false ∧ B4 = true ∧ B5 = true ∧ t6 = true) ∨ (B1 = true ∧ B2 = true ∧ t3 = false ∧ B4 = true ∧ B5 = true ∧ t6 = false ∧ B7 = false) ∨ (B1 = true ∧ B2 = true ∧ t3 = false ∧ B4 = true ∧ B5 = true ∧ t6 = false ∧ B7 = true ∧ B8 = false) ∨ (B1 = true ∧ B2 = true ∧ t3 = false ∧ B4 = true ∧ B5 = true ∧ t6 = false ∧ B7 = true ∧ B8 = true ∧ B9 = false) ∨ (B1 = true ∧ B2 = true ∧ t3 = false ∧ B4 = true ∧ B5 = true ∧ t6 = false ∧ B7 = true ∧ B8 = true ∧ B9 = true ∧ ta = true) ∨ (B1 = true ∧ B2 = true ∧ t3 = false ∧ B4 = true ∧ B5 = true ∧ t6 = false ∧ B7 = true ∧ B8 = true ∧ B9 = true ∧ ta = false ∧ tb = true) ∨ (B1 = true ∧ B2 = true ∧ t3 = false ∧ B4 = true ∧ B5 = true ∧ t6 = false ∧ B7 = true ∧ B8 = true ∧ B9 = true ∧ ta = false ∧ tb = false ∧ tc = true) ∨ (B1 = true ∧ B2 = true ∧ t3 = false ∧ B4 = true ∧ B5 = true ∧ t6 = false ∧ B7 = true ∧ B8 = true ∧ B9 = true ∧ ta = false ∧ tb = false ∧ tc = false ∧ td = true) ∨ (B1 = true ∧ B2 = true ∧ t3 = false ∧ B4 = true ∧ B5 = true ∧ t6 = false ∧ B7 = true ∧ B8 = true ∧ B9 = true ∧ ta = false ∧ tb = false ∧ tc = false ∧ td = false ∧ te = true) ∨ (B1 = true ∧ B2 = true ∧ t3 = false ∧ B4 = true ∧ B5 = true ∧ t6 = false ∧ B7 = true ∧ B8 = true ∧ B9 = true ∧ ta = false ∧ tb = false ∧ tc = false ∧ td = false ∧ te = false ∧ tf = true) ∨ (B1 = true ∧ B2 = true ∧ t3 = false ∧ B4 = true ∧ B5 = true ∧ t6 = false ∧ B7 = true ∧ B8 = true ∧ B9 = true ∧ ta = false ∧ tb = false ∧ tc = false ∧ td = false ∧ te = false ∧ tf = false ∧ tg = true) ∨ (B1 = true ∧ B2 = true ∧ t3 = false ∧ B4 = true ∧ B5 = true ∧ t6 = false ∧ B7 = true ∧ B8 = true ∧ B9 = true ∧ ta = false ∧ tb = false ∧ tc = false ∧ td = false ∧ te = false ∧ tf = false ∧ tg = false ∧ th = true) ∨ (B1 = true ∧ B2 = true ∧ t3 = false ∧ B4 = true ∧ B5 = true ∧ t6 = false ∧ B7 = true ∧ B8 = true ∧ B9 = true ∧ ta = false ∧ tb = false ∧ tc = false ∧ td = false ∧ te = false ∧ tf = false ∧ tg = false ∧ th = false ∧ ti = true) ∨ (B1 = true ∧ B2 = true ∧ t3 = false ∧ B4 = true ∧ B5 = true ∧ t6 = false ∧ B7 = true ∧ B8 = true ∧ B9 = true ∧ ta = false ∧ tb = false ∧ tc = false ∧ td = false ∧ te = false ∧ tf = false ∧ tg = false ∧ th = false ∧ ti = false) := by
    rcases Bool.eq_false_or_eq_true B1 with q0 | q0
    case inr => exact .inl q0
    rcases Bool.eq_false_or_eq_true B2 with q1 | q1
    case inr => exact .inr (.inl ⟨q0, q1⟩)
    rcases Bool.eq_false_or_eq_true t3 with q2 | q2
    · exact .inr (.inr (.inl ⟨q0, q1, q2⟩))
    rcases Bool.eq_false_or_eq_true B4 with q3 | q3
    case inr => exact .inr (.inr (.inr (.inl ⟨q0, q1, q2, q3⟩)))
    rcases Bool.eq_false_or_eq_true B5 with q4 | q4
    case inr => exact .inr (.inr (.inr (.inr (.inl ⟨q0, q1, q2, q3, q4⟩))))
    rcases Bool.eq_false_or_eq_true t6 with q5 | q5
    · exact .inr (.inr (.inr (.inr (.inr (.inl ⟨q0, q1, q2, q3, q4, q5⟩)))))
    rcases Bool.eq_false_or_eq_true B7 with q6 | q6
    case inr => exact .inr (.inr (.inr (.inr (.inr (.inr (.inl ⟨q0, q1, q2, q3, q4, q5, q6⟩))))))
    rcases Bool.eq_false_or_eq_true B8 with q7 | q7
    case inr => exact .inr (.inr (.inr (.inr (.inr (.inr (.inr (.inl ⟨q0, q1, q2, q3, q4, q5, q6, q7⟩)))))))
    rcases Bool.eq_false_or_eq_true B9 with q8 | q8
    case inr => exact .inr (.inr (.inr (.inr (.inr (.inr (.inr (.inr (.inl ⟨q0, q1, q2, q3, q4, q5, q6, q7, q8⟩))))))))
    rcases Bool.eq_false_or_eq_true ta with q9 | q9
    · exact .inr (.inr (.inr (.inr (.inr (.inr (.inr (.inr (.inr (.inl ⟨q0, q1, q2, q3, q4, q5, q6, q7, q8, q9⟩)))))))))
    rcases Bool.eq_false_or_eq_true tb with q10 | q10
    · exact .inr (.inr (.inr (.inr (.inr (.inr (.inr (.inr (.inr (.inr (.inl ⟨q0, q1, q2, q3, q4, q5, q6, q7, q8, q9, q10⟩))))))))))
    rcases Bool.eq_false_or_eq_true tc with q11 | q11
    · exact .inr (.inr (.inr (.inr (.inr (.inr (.inr (.inr (.inr (.inr (.inr (.inl ⟨q0, q1, q2, q3, q4, q5, q6, q7, q8, q9, q10, q11⟩)))))))))))
    rcases Bool.eq_false_or_eq_true td with q12 | q12
    · exact .inr (.inr (.inr (.inr (.inr (.inr (.inr (.inr (.inr (.inr (.inr (.inr (.inl ⟨q0, q1, q2, q3, q4, q5, q6, q7, q8, q9, q10, q11, q12⟩))))))))))))
    rcases Bool.eq_false_or_eq_true te with q13 | q13
    · exact .inr (.inr (.inr (.inr (.inr (.inr (.inr (.inr (.inr (.inr (.inr (.inr (.inr (.inl ⟨q0, q1, q2, q3, q4, q5, q6, q7, q8, q9, q10, q11, q12, q13⟩)))))))))))))
    rcases Bool.eq_false_or_eq_true tf with q14 | q14
    · exact .inr (.inr (.inr (.inr (.inr (.inr (.inr (.inr (.inr (.inr (.inr (.inr (.inr (.inr (.inl ⟨q0, q1, q2, q3, q4, q5, q6, q7, q8, q9, q10, q11, q12, q13, q14⟩))))))))))))))
    rcases Bool.eq_false_or_eq_true tg with q15 | q15
    · exact .inr (.inr (.inr (.inr (.inr (.inr (.inr (.inr (.inr (.inr (.inr (.inr (.inr (.inr (.inr (.inl ⟨q0, q1, q2, q3, q4, q5, q6, q7, q8, q9, q10, q11, q12, q13, q14, q15⟩)))))))))))))))
    rcases Bool.eq_false_or_eq_true th with q16 | q16
    · exact .inr (.inr (.inr (.inr (.inr (.inr (.inr (.inr (.inr (.inr (.inr (.inr (.inr (.inr (.inr (.inr (.inl ⟨q0, q1, q2, q3, q4, q5, q6, q7, q8, q9, q10, q11, q12, q13, q14, q15, q16⟩))))))))))))))))
    rcases Bool.eq_false_or_eq_true ti with q17 | q17
    · exact .inr (.inr (.inr (.inr (.inr (.inr (.inr (.inr (.inr (.inr (.inr (.inr (.inr (.inr (.inr (.inr (.inr (.inl ⟨q0, q1, q2, q3, q4, q5, q6, q7, q8, q9, q10, q11, q12, q13, q14, q15, q16, q17⟩)))))))))))))))))
    exact .inr (.inr (.inr (.inr (.inr (.inr (.inr (.inr (.inr (.inr (.inr (.inr (.inr (.inr (.inr (.inr (.inr (.inr ⟨q0, q1, q2, q3, q4, q5, q6, q7, q8, q9, q10, q11, q12, q13, q14, q15, q16, q17⟩)))))))))))))))))
  rcases hc with rfl | ⟨rfl, rfl⟩ | ⟨rfl, rfl, rfl⟩ | ⟨rfl, rfl, rfl, rfl⟩ | ⟨rfl, rfl, rfl, rfl, rfl⟩ | ⟨rfl, rfl, rfl, rfl, rfl, rfl⟩ | ⟨rfl, rfl, rfl, rfl, rfl, rfl, rfl⟩ | ⟨rfl, rfl, rfl, rfl, rfl, rfl, rfl, rfl⟩ | ⟨rfl, rfl, rfl, rfl, rfl, rfl, rfl, rfl, rfl⟩ | ⟨rfl, rfl, rfl, rfl, rfl, rfl, rfl, rfl, rfl, rfl⟩ | ⟨rfl, rfl, rfl, rfl, rfl, rfl, rfl, rfl, rfl, rfl, rfl⟩ | ⟨rfl, rfl, rfl, rfl, rfl, rfl, rfl, rfl, rfl, rfl, rfl, rfl⟩ | ⟨rfl, rfl, rfl, rfl, rfl, rfl, rfl, rfl, rfl, rfl, rfl, rfl, rfl⟩ | ⟨rfl, rfl, rfl, rfl, rfl, rfl, rfl, rfl, rfl, rfl, rfl, rfl, rfl, rfl⟩ | ⟨rfl, rfl, rfl, rfl, rfl, rfl, rfl, rfl, rfl, rfl, rfl, rfl, rfl, rfl, rfl⟩ | ⟨rfl, rfl, rfl, rfl, rfl, rfl, rfl, rfl, rfl, rfl, rfl, rfl, rfl, rfl, rfl, rfl⟩ | ⟨rfl, rfl, rfl, rfl, rfl, rfl, rfl, rfl, rfl, rfl, rfl, rfl, rfl, rfl, rfl, rfl, rfl⟩ | ⟨rfl, rfl, rfl, rfl, rfl, rfl, rfl, rfl, rfl, rfl, rfl, rfl, rfl, rfl, rfl, rfl, rfl, rfl⟩ | ⟨rfl, rfl, rfl, rfl, rfl, rfl, rfl, rfl, rfl, rfl, rfl, rfl, rfl, rfl, rfl, rfl, rfl, rfl⟩
  all_goals
    obtain ⟨d0, d1, d2, d3, d4, d5, d6, d7, d8, d9⟩ := cells10 HE.out
    go_enter Try.func12, Try.ntmps12
    go_upto_region 1 with (fail)
    rw [← HW1.out]
    go_wp2_with (first | (go_at_call 23; ((with_reducible refine (jobshellref46_snap.calls s.text s.pos 3 _ _ N1.out).mono ?_)); rintro e w2 ⟨rfl, hb⟩; have HEn := Aside0.mk (blk_below HE.out hb); have HBn := Aside0.mk (below_step HB.out hb); have J1n := Aside0.mk (Kd.C_below J1.out hb); have J2n := Aside0.mk (Kd.C_below J2.out hb); have J3n := Aside0.mk (Kd.C_below J3.out hb); clear HE HB J1 J2 J3 d0 d1 d2 d3 d4 d5 d6 d7 d8 d9 hb; have HE := HEn; have HB := HBn; have J1 := J1n; have J2 := J2n; have J3 := J3n; clear HEn HBn J1n J2n J3n; obtain ⟨d0, d1, d2, d3, d4, d5, d6, d7, d8, d9⟩ := cells10 HE.out) | (go_at_call 24; ((with_reducible refine (jobshellref46_short.calls _ Ak ck s.kills _ _ J1.out h1c N2.out).mono ?_)); rintro e w2 ⟨rfl, hb⟩; have hb := drawn_below hb; have HEn := Aside0.mk (blk_below HE.out hb); have HBn := Aside0.mk (below_step HB.out hb); have J1n := Aside0.mk (Kd.C_below J1.out hb); have J2n := Aside0.mk (Kd.C_below J2.out hb); have J3n := Aside0.mk (Kd.C_below J3.out hb); clear HE HB J1 J2 J3 d0 d1 d2 d3 d4 d5 d6 d7 d8 d9 hb; have HE := HEn; have HB := HBn; have J1 := J1n; have J2 := J2n; have J3 := J3n; clear HEn HBn J1n J2n J3n; obtain ⟨d0, d1, d2, d3, d4, d5, d6, d7, d8, d9⟩ := cells10 HE.out) | (go_at_call 25; ((with_reducible refine (jobshellref46_snaps.calls _ Au cu s.undo 3 _ _ J2.out h2c N4.out).mono ?_)); rintro e w2 ⟨rfl, hb⟩; have HEn := Aside0.mk (blk_below HE.out hb); have HBn := Aside0.mk (below_step HB.out hb); have J1n := Aside0.mk (Kd.C_below J1.out hb); have J2n := Aside0.mk (Kd.C_below J2.out hb); have J3n := Aside0.mk (Kd.C_below J3.out hb); clear HE HB J1 J2 J3 d0 d1 d2 d3 d4 d5 d6 d7 d8 d9 hb; have HE := HEn; have HB := HBn; have J1 := J1n; have J2 := J2n; have J3 := J3n; clear HEn HBn J1n J2n J3n; obtain ⟨d0, d1, d2, d3, d4, d5, d6, d7, d8, d9⟩ := cells10 HE.out) | (go_at_call 25; ((with_reducible refine (jobshellref46_snaps.calls _ Ar cr s.redo 3 _ _ J3.out h3c N5.out).mono ?_)); rintro e w2 ⟨rfl, hb⟩; have HEn := Aside0.mk (blk_below HE.out hb); have HBn := Aside0.mk (below_step HB.out hb); have J1n := Aside0.mk (Kd.C_below J1.out hb); have J2n := Aside0.mk (Kd.C_below J2.out hb); have J3n := Aside0.mk (Kd.C_below J3.out hb); clear HE HB J1 J2 J3 d0 d1 d2 d3 d4 d5 d6 d7 d8 d9 hb; have HE := HEn; have HB := HBn; have J1 := J1n; have J2 := J2n; have J3 := J3n; clear HEn HBn J1n J2n J3n; obtain ⟨d0, d1, d2, d3, d4, d5, d6, d7, d8, d9⟩ := cells10 HE.out) | (go_at_call 23; ((with_reducible refine (jobshellref46_snap.calls s.text s.pos 2 _ _ N7.out).mono ?_)); rintro e w2 ⟨rfl, hb⟩; have HEn := Aside0.mk (blk_below HE.out hb); have HBn := Aside0.mk (below_step HB.out hb); have J1n := Aside0.mk (Kd.C_below J1.out hb); have J2n := Aside0.mk (Kd.C_below J2.out hb); have J3n := Aside0.mk (Kd.C_below J3.out hb); clear HE HB J1 J2 J3 d0 d1 d2 d3 d4 d5 d6 d7 d8 d9 hb; have HE := HEn; have HB := HBn; have J1 := J1n; have J2 := J2n; have J3 := J3n; clear HEn HBn J1n J2n J3n; obtain ⟨d0, d1, d2, d3, d4, d5, d6, d7, d8, d9⟩ := cells10 HE.out) | (go_at_call 25; ((with_reducible refine (jobshellref46_snaps.calls _ Au cu s.undo 2 _ _ J2.out h2c N8.out).mono ?_)); rintro e w2 ⟨rfl, hb⟩; have HEn := Aside0.mk (blk_below HE.out hb); have HBn := Aside0.mk (below_step HB.out hb); have J1n := Aside0.mk (Kd.C_below J1.out hb); have J2n := Aside0.mk (Kd.C_below J2.out hb); have J3n := Aside0.mk (Kd.C_below J3.out hb); clear HE HB J1 J2 J3 d0 d1 d2 d3 d4 d5 d6 d7 d8 d9 hb; have HE := HEn; have HB := HBn; have J1 := J1n; have J2 := J2n; have J3 := J3n; clear HEn HBn J1n J2n J3n; obtain ⟨d0, d1, d2, d3, d4, d5, d6, d7, d8, d9⟩ := cells10 HE.out) | (go_at_call 25; ((with_reducible refine (jobshellref46_snaps.calls _ Ar cr s.redo 2 _ _ J3.out h3c N9.out).mono ?_)); rintro e w2 ⟨rfl, hb⟩; have HEn := Aside0.mk (blk_below HE.out hb); have HBn := Aside0.mk (below_step HB.out hb); have J1n := Aside0.mk (Kd.C_below J1.out hb); have J2n := Aside0.mk (Kd.C_below J2.out hb); have J3n := Aside0.mk (Kd.C_below J3.out hb); clear HE HB J1 J2 J3 d0 d1 d2 d3 d4 d5 d6 d7 d8 d9 hb; have HE := HEn; have HB := HBn; have J1 := J1n; have J2 := J2n; have J3 := J3n; clear HEn HBn J1n J2n J3n; obtain ⟨d0, d1, d2, d3, d4, d5, d6, d7, d8, d9⟩ := cells10 HE.out))
    go_ret
    exact ⟨by rw [HV.out]; first | rfl | (simp only [Bool.not_true, Bool.not_false, Bool.or_true, Bool.true_or, Bool.or_false, Bool.false_or, if_true]; rfl), HB.out⟩
theorem lit_snap (w : World) (t : ByteArray) (p : Int) : Kd.C k23 (w.alloc (.cells #[.string t, .int .i64 p] 23)) (some ⟨w.heap.size, 0, none⟩) 1 [⟨t, p⟩] := by
  have hb := blk_new w (.cells #[.string t, .int .i64 p] 23)
  refine ⟨rfl, by decide, fun _ => ⟨⟨w.heap.size, 0, none⟩, rfl, fun j x hj => ?_⟩⟩
  obtain rfl : j = 0 := by
    rcases j with _ | j
    · rfl
    · simp at hj
  simp only [List.getElem?_cons_zero, Option.some.injEq] at hj
  subst hj
  refine ⟨[.string t, .int .i64 p], rfl, ⟨_, _, rfl, rfl, rfl⟩, fun i u hu => ?_⟩
  have hc := blk_cell hb i
  have e : Addr.add ⟨w.heap.size, 0, none⟩ (0 * k23.sz + i) = ⟨w.heap.size, i, none⟩ := by rw [add_at]; simp
  rw [e, hc]
  simpa using hu
theorem plong_one (w : World) (A : Option Addr) (x : S23) (r : Bool) (h : Kd.C k23 w A 1 [x]) (hf : editor_long.f 2 [x] = some r) : Calls Try.prog 21 #[.slice A 1 1] w fun e w' => e = .returned (.bool r) ∧ Below w.heap.size w w' := editor_long.calls 2 A 1 [x] r w h (Nat.le_refl _) hf
theorem pout_one (w : World) (A : Option Addr) (x : S23) (r : Bool) (h : Kd.C k23 w A 1 [x]) (hf : editor_outside.f 2 [x] = some r) : Calls Try.prog 22 #[.slice A 1 1] w fun e w' => e = .returned (.bool r) ∧ Below w.heap.size w w' := editor_outside.calls 2 A 1 [x] r w h (Nat.le_refl _) hf
theorem kill_each {l : List ByteArray} (h : killL l = false) (i : Nat) (hi : i < l.length) : (rdOf ByteArray.empty l (i : Int)).size ≤ 4096 := by
  unfold killL at h
  rw [List.any_eq_false] at h
  have := h _ (List.getElem_mem hi)
  have e : rdOf ByteArray.empty l (i : Int) = l[i] := by unfold rdOf; simp [hi]
  rw [e]
  simp at this
  omega

set_option maxHeartbeats 16000000 in
set_option maxRecDepth 100000 in
theorem pval_good (w : World) (s : St) (Ak Au Ar : Option Addr) (ck cu cr : Nat) (h1 : Kd.C Kd.string w Ak s.kills.length s.kills) (h1c : s.kills.length ≤ ck) (h2 : Kd.C k23 w Au s.undo.length s.undo) (h2c : s.undo.length ≤ cu) (h3 : Kd.C k23 w Ar s.redo.length s.redo) (h3c : s.redo.length ≤ cr) (g : Good s) :
    Calls Try.prog 11 #[.agg #[.string s.text, .int .i64 s.pos, .int .i64 s.mark, .slice Ak s.kills.length ck, .slice Au s.undo.length cu, .slice Ar s.redo.length cr, .string s.keys, .int .i64 s.last, .int .i64 s.line, .string s.saved]] w fun e w' => e = .returned (.int .i64 0) ∧ Below w.heap.size w w' := by
  obtain ⟨g1, g2, g3, g4, g5, g6, g7, g8, g9, g10, g11, g12, l0, l1, n0, n1, g13, g14, g15⟩ := g
  have hu27 := Try.underlying27
  have hu23 := Try.underlying23
  have hn1 : longB [⟨s.text, s.pos⟩] = false := by unfold longB; simp; omega
  have hn4 : outB [⟨s.text, s.pos⟩] = false := by unfold outB; simp; omega
  obtain ⟨w1, hw1⟩ : ∃ z, z = (w.alloc (.cells #[.string s.text, .int .i64 s.pos, .int .i64 s.mark, .slice Ak s.kills.length ck, .slice Au s.undo.length cu, .slice Ar s.redo.length cr, .string s.keys, .int .i64 s.last, .int .i64 s.line, .string s.saved] 27)).alloc (.cells #[.string s.text, .int .i64 s.pos] 23) := ⟨_, rfl⟩
  have hb1 : Below w.heap.size w w1 := by rw [hw1]; exact below_alloc (below_alloc (Below.refl _ _) _) _
  have HE := Aside0.mk (show w1.heap[w.heap.size]? = some (.cells #[.string s.text, .int .i64 s.pos, .int .i64 s.mark, .slice Ak s.kills.length ck, .slice Au s.undo.length cu, .slice Ar s.redo.length cr, .string s.keys, .int .i64 s.last, .int .i64 s.line, .string s.saved] 27 (0, 0)) from by rw [hw1]; exact blk_alloc (blk_new w _) _)
  have JN := Aside0.mk (show Kd.C k23 w1 (some ⟨w.heap.size + 1, 0, none⟩) 1 [⟨s.text, s.pos⟩] from by have h := lit_snap (w.alloc (.cells #[.string s.text, .int .i64 s.pos, .int .i64 s.mark, .slice Ak s.kills.length ck, .slice Au s.undo.length cu, .slice Ar s.redo.length cr, .string s.keys, .int .i64 s.last, .int .i64 s.line, .string s.saved] 27)) s.text s.pos; rw [hw1]; simpa using h)
  have HB := Aside0.mk hb1
  have J1 := Aside0.mk (Kd.C_below h1 hb1)
  have J2 := Aside0.mk (Kd.C_below h2 hb1)
  have J3 := Aside0.mk (Kd.C_below h3 hb1)
  have HW1 := Aside0.mk hw1
  have N1 := Aside0.mk ((long_f [⟨s.text, s.pos⟩] 2 (by simp) (by simp)).trans (by rw [hn1]))
  have N2 := Aside0.mk ((long_f s.undo 100 (by omega) (by omega)).trans (by rw [g2]))
  have N3 := Aside0.mk ((long_f s.redo 100 (by omega) (by omega)).trans (by rw [g3]))
  have N4 := Aside0.mk ((outside_f [⟨s.text, s.pos⟩] 2 (by simp) (by simp)).trans (by rw [hn4]))
  have N5 := Aside0.mk ((outside_f s.undo 100 (by omega) (by omega)).trans (by rw [g9]))
  have N6 := Aside0.mk ((outside_f s.redo 100 (by omega) (by omega)).trans (by rw [g10]))
  have HKE := Aside0.mk (fun i hi => kill_each g6 i hi)
  have t3 : decide (4096 < (s.saved.size : Int)) = false := decide_eq_false (by omega)
  have t3n : decide (4096 < s.saved.size) = false := decide_eq_false (by omega)
  have t6 : decide (16 < (s.keys.size : Int)) = false := decide_eq_false (by omega)
  have t6n : decide (16 < s.keys.size) = false := decide_eq_false (by omega)
  have ta : decide (s.mark < 0) = false := decide_eq_false (by omega)
  have tb : decide ((s.text.size : Int) < s.mark) = false := decide_eq_false (by omega)
  have tc : decide (s.last < 0) = false := decide_eq_false (by omega)
  have td : decide (28 < s.last) = false := decide_eq_false (by omega)
  have te : decide (s.line < 0) = false := decide_eq_false (by omega)
  have tf : decide (128 < s.line) = false := decide_eq_false (by omega)
  have tg : decide (16 < (s.kills.length : Int)) = false := decide_eq_false (by omega)
  have tgn : decide (16 < s.kills.length) = false := decide_eq_false (by omega)
  have th : decide (64 < (s.undo.length : Int)) = false := decide_eq_false (by omega)
  have thn : decide (64 < s.undo.length) = false := decide_eq_false (by omega)
  have ti : decide (64 < (s.redo.length : Int)) = false := decide_eq_false (by omega)
  have tin : decide (64 < s.redo.length) = false := decide_eq_false (by omega)
  clear hn1 hn4 g1 g2 g3 g4 g5 g6 g7 g8 g9 g10 g11 g12 g14 g15 h1 h2 h3 hw1 hb1 l0 l1 n0 n1
  go_enter Try.func11, Try.ntmps11
  go_upto_region 2 with (fail)
  rw [← HW1.out]
  obtain ⟨d0, d1, d2, d3, d4, d5, d6, d7, d8, d9⟩ := cells10 HE.out
  go_wp2_with (first | (go_at_call 21; ((with_reducible refine (plong_one _ _ ⟨s.text, s.pos⟩ _ JN.out N1.out).mono ?_)); rintro e w2 ⟨rfl, hb⟩; have HEn := Aside0.mk (blk_below HE.out hb); have HBn := Aside0.mk (below_step HB.out hb); have J1n := Aside0.mk (Kd.C_below J1.out hb); have J2n := Aside0.mk (Kd.C_below J2.out hb); have J3n := Aside0.mk (Kd.C_below J3.out hb); have JNn := Aside0.mk (Kd.C_below JN.out hb); clear HE HB J1 J2 J3 JN d0 d1 d2 d3 d4 d5 d6 d7 d8 d9 hb; have HE := HEn; have HB := HBn; have J1 := J1n; have J2 := J2n; have J3 := J3n; have JN := JNn; clear HEn HBn J1n J2n J3n JNn; obtain ⟨d0, d1, d2, d3, d4, d5, d6, d7, d8, d9⟩ := cells10 HE.out) | (go_at_call 21; ((with_reducible refine (editor_long.calls _ Au cu s.undo _ _ J2.out h2c N2.out).mono ?_)); rintro e w2 ⟨rfl, hb⟩; have HEn := Aside0.mk (blk_below HE.out hb); have HBn := Aside0.mk (below_step HB.out hb); have J1n := Aside0.mk (Kd.C_below J1.out hb); have J2n := Aside0.mk (Kd.C_below J2.out hb); have J3n := Aside0.mk (Kd.C_below J3.out hb); have JNn := Aside0.mk (Kd.C_below JN.out hb); clear HE HB J1 J2 J3 JN d0 d1 d2 d3 d4 d5 d6 d7 d8 d9 hb; have HE := HEn; have HB := HBn; have J1 := J1n; have J2 := J2n; have J3 := J3n; have JN := JNn; clear HEn HBn J1n J2n J3n JNn; obtain ⟨d0, d1, d2, d3, d4, d5, d6, d7, d8, d9⟩ := cells10 HE.out) | (go_at_call 21; ((with_reducible refine (editor_long.calls _ Ar cr s.redo _ _ J3.out h3c N3.out).mono ?_)); rintro e w2 ⟨rfl, hb⟩; have HEn := Aside0.mk (blk_below HE.out hb); have HBn := Aside0.mk (below_step HB.out hb); have J1n := Aside0.mk (Kd.C_below J1.out hb); have J2n := Aside0.mk (Kd.C_below J2.out hb); have J3n := Aside0.mk (Kd.C_below J3.out hb); have JNn := Aside0.mk (Kd.C_below JN.out hb); clear HE HB J1 J2 J3 JN d0 d1 d2 d3 d4 d5 d6 d7 d8 d9 hb; have HE := HEn; have HB := HBn; have J1 := J1n; have J2 := J2n; have J3 := J3n; have JN := JNn; clear HEn HBn J1n J2n J3n JNn; obtain ⟨d0, d1, d2, d3, d4, d5, d6, d7, d8, d9⟩ := cells10 HE.out))
  go_loop [36] (fun v => ∃ i : Nat, i ≤ s.kills.length ∧ v = .int .i64 (i : Int)) (fun v => s.kills.length - (intOf v).toNat)
  case atStart => exact ⟨0, Nat.zero_le _, rfl⟩
  case round =>
    obtain ⟨i, hi0, rfl⟩ := hrel
    by_cases hi : i < s.kills.length
    · have z1 : (i : Int) < (s.kills.length : Int) := by omega
      rcases Ak with _ | ad
      · exact absurd J1.out (by intro hC; obtain ⟨ad, _, ha, _⟩ := Kd.C_get hC ByteArray.empty 0 (by omega) (by omega); cases ha)
      have hcell := Kd.foot_string J1.out (i : Int) (by omega) (by omega)
      have hsz := HKE.out i hi
      obtain ⟨y, hy⟩ : ∃ z, z = rdOf ByteArray.empty s.kills (i : Int) := ⟨_, rfl⟩
      rw [← hy] at hcell hsz
      have hz1 : decide (4096 < (y.size : Int)) = false := decide_eq_false (by omega)
      have hz2 : decide (4096 < y.size) = false := decide_eq_false (by omega)
      have e0 : (i : Int).toNat = i := by omega
      rw [e0] at hcell
      clear hy e0
      go_wp2
      go_round
      case rel => exact ⟨i + 1, by omega, by go_num⟩
      case measure => simp [intOf]; omega
    · have z1 : ¬ (i : Int) < (s.kills.length : Int) := by omega
      go_wp2_with (first | (go_at_call 22; ((with_reducible refine (pout_one _ _ ⟨s.text, s.pos⟩ _ JN.out N4.out).mono ?_)); rintro e w2 ⟨rfl, hb⟩; have HEn := Aside0.mk (blk_below HE.out hb); have HBn := Aside0.mk (below_step HB.out hb); have J1n := Aside0.mk (Kd.C_below J1.out hb); have J2n := Aside0.mk (Kd.C_below J2.out hb); have J3n := Aside0.mk (Kd.C_below J3.out hb); have JNn := Aside0.mk (Kd.C_below JN.out hb); clear HE HB J1 J2 J3 JN d0 d1 d2 d3 d4 d5 d6 d7 d8 d9 hb; have HE := HEn; have HB := HBn; have J1 := J1n; have J2 := J2n; have J3 := J3n; have JN := JNn; clear HEn HBn J1n J2n J3n JNn; obtain ⟨d0, d1, d2, d3, d4, d5, d6, d7, d8, d9⟩ := cells10 HE.out) | (go_at_call 22; ((with_reducible refine (editor_outside.calls _ Au cu s.undo _ _ J2.out h2c N5.out).mono ?_)); rintro e w2 ⟨rfl, hb⟩; have HEn := Aside0.mk (blk_below HE.out hb); have HBn := Aside0.mk (below_step HB.out hb); have J1n := Aside0.mk (Kd.C_below J1.out hb); have J2n := Aside0.mk (Kd.C_below J2.out hb); have J3n := Aside0.mk (Kd.C_below J3.out hb); have JNn := Aside0.mk (Kd.C_below JN.out hb); clear HE HB J1 J2 J3 JN d0 d1 d2 d3 d4 d5 d6 d7 d8 d9 hb; have HE := HEn; have HB := HBn; have J1 := J1n; have J2 := J2n; have J3 := J3n; have JN := JNn; clear HEn HBn J1n J2n J3n JNn; obtain ⟨d0, d1, d2, d3, d4, d5, d6, d7, d8, d9⟩ := cells10 HE.out) | (go_at_call 22; ((with_reducible refine (editor_outside.calls _ Ar cr s.redo _ _ J3.out h3c N6.out).mono ?_)); rintro e w2 ⟨rfl, hb⟩; have HEn := Aside0.mk (blk_below HE.out hb); have HBn := Aside0.mk (below_step HB.out hb); have J1n := Aside0.mk (Kd.C_below J1.out hb); have J2n := Aside0.mk (Kd.C_below J2.out hb); have J3n := Aside0.mk (Kd.C_below J3.out hb); have JNn := Aside0.mk (Kd.C_below JN.out hb); clear HE HB J1 J2 J3 JN d0 d1 d2 d3 d4 d5 d6 d7 d8 d9 hb; have HE := HEn; have HB := HBn; have J1 := J1n; have J2 := J2n; have J3 := J3n; have JN := JNn; clear HEn HBn J1n J2n J3n JNn; obtain ⟨d0, d1, d2, d3, d4, d5, d6, d7, d8, d9⟩ := cells10 HE.out))
      go_ret
      exact ⟨rfl, HB.out⟩
set_option maxHeartbeats 16000000 in
set_option maxRecDepth 100000 in
theorem pval_mark (w : World) (s : St) (Ak Au Ar : Option Addr) (ck cu cr : Nat) (h1 : Kd.C Kd.string w Ak s.kills.length s.kills) (h1c : s.kills.length ≤ ck) (h2 : Kd.C k23 w Au s.undo.length s.undo) (h2c : s.undo.length ≤ cu) (h3 : Kd.C k23 w Ar s.redo.length s.redo) (h3c : s.redo.length ≤ cr) (g1 : s.text.size ≤ 4096) (g2 : longB s.undo = false) (g3 : longB s.redo = false) (g4 : s.saved.size ≤ 4096) (g5 : s.keys.size ≤ 16) (g6 : killL s.kills = false) (g7 : 0 ≤ s.pos) (g8 : s.pos ≤ s.text.size) (g9 : outB s.undo = false) (g10 : outB s.redo = false) (g11 : 0 ≤ s.mark) (g12 : (s.text.size : Int) < s.mark) (g13 : s.kills.length ≤ 16) (g14 : s.undo.length ≤ 64) (g15 : s.redo.length ≤ 64) :
    Calls Try.prog 11 #[.agg #[.string s.text, .int .i64 s.pos, .int .i64 s.mark, .slice Ak s.kills.length ck, .slice Au s.undo.length cu, .slice Ar s.redo.length cr, .string s.keys, .int .i64 s.last, .int .i64 s.line, .string s.saved]] w fun e w' => e = .returned (.int .i64 2) ∧ Below w.heap.size w w' := by
  have hu27 := Try.underlying27
  have hu23 := Try.underlying23
  have hn1 : longB [⟨s.text, s.pos⟩] = false := by unfold longB; simp; omega
  have hn4 : outB [⟨s.text, s.pos⟩] = false := by unfold outB; simp; omega
  obtain ⟨w1, hw1⟩ : ∃ z, z = (w.alloc (.cells #[.string s.text, .int .i64 s.pos, .int .i64 s.mark, .slice Ak s.kills.length ck, .slice Au s.undo.length cu, .slice Ar s.redo.length cr, .string s.keys, .int .i64 s.last, .int .i64 s.line, .string s.saved] 27)).alloc (.cells #[.string s.text, .int .i64 s.pos] 23) := ⟨_, rfl⟩
  have hb1 : Below w.heap.size w w1 := by rw [hw1]; exact below_alloc (below_alloc (Below.refl _ _) _) _
  have HE := Aside0.mk (show w1.heap[w.heap.size]? = some (.cells #[.string s.text, .int .i64 s.pos, .int .i64 s.mark, .slice Ak s.kills.length ck, .slice Au s.undo.length cu, .slice Ar s.redo.length cr, .string s.keys, .int .i64 s.last, .int .i64 s.line, .string s.saved] 27 (0, 0)) from by rw [hw1]; exact blk_alloc (blk_new w _) _)
  have JN := Aside0.mk (show Kd.C k23 w1 (some ⟨w.heap.size + 1, 0, none⟩) 1 [⟨s.text, s.pos⟩] from by have h := lit_snap (w.alloc (.cells #[.string s.text, .int .i64 s.pos, .int .i64 s.mark, .slice Ak s.kills.length ck, .slice Au s.undo.length cu, .slice Ar s.redo.length cr, .string s.keys, .int .i64 s.last, .int .i64 s.line, .string s.saved] 27)) s.text s.pos; rw [hw1]; simpa using h)
  have HB := Aside0.mk hb1
  have J1 := Aside0.mk (Kd.C_below h1 hb1)
  have J2 := Aside0.mk (Kd.C_below h2 hb1)
  have J3 := Aside0.mk (Kd.C_below h3 hb1)
  have HW1 := Aside0.mk hw1
  have N1 := Aside0.mk ((long_f [⟨s.text, s.pos⟩] 2 (by simp) (by simp)).trans (by rw [hn1]))
  have N2 := Aside0.mk ((long_f s.undo 100 (by omega) (by omega)).trans (by rw [g2]))
  have N3 := Aside0.mk ((long_f s.redo 100 (by omega) (by omega)).trans (by rw [g3]))
  have N4 := Aside0.mk ((outside_f [⟨s.text, s.pos⟩] 2 (by simp) (by simp)).trans (by rw [hn4]))
  have N5 := Aside0.mk ((outside_f s.undo 100 (by omega) (by omega)).trans (by rw [g9]))
  have N6 := Aside0.mk ((outside_f s.redo 100 (by omega) (by omega)).trans (by rw [g10]))
  have HKE := Aside0.mk (fun i hi => kill_each g6 i hi)
  have t3 : decide (4096 < (s.saved.size : Int)) = false := decide_eq_false (by omega)
  have t3n : decide (4096 < s.saved.size) = false := decide_eq_false (by omega)
  have t6 : decide (16 < (s.keys.size : Int)) = false := decide_eq_false (by omega)
  have t6n : decide (16 < s.keys.size) = false := decide_eq_false (by omega)
  have ta : decide (s.mark < 0) = false := decide_eq_false (by omega)
  have tb : decide ((s.text.size : Int) < s.mark) = true := decide_eq_true (by omega)
  clear hn1 hn4 g1 g2 g3 g4 g5 g6 g7 g8 g9 g10 g11 g12 g14 g15 h1 h2 h3 hw1 hb1
  go_enter Try.func11, Try.ntmps11
  go_upto_region 2 with (fail)
  rw [← HW1.out]
  obtain ⟨d0, d1, d2, d3, d4, d5, d6, d7, d8, d9⟩ := cells10 HE.out
  go_wp2_with (first | (go_at_call 21; ((with_reducible refine (plong_one _ _ ⟨s.text, s.pos⟩ _ JN.out N1.out).mono ?_)); rintro e w2 ⟨rfl, hb⟩; have HEn := Aside0.mk (blk_below HE.out hb); have HBn := Aside0.mk (below_step HB.out hb); have J1n := Aside0.mk (Kd.C_below J1.out hb); have J2n := Aside0.mk (Kd.C_below J2.out hb); have J3n := Aside0.mk (Kd.C_below J3.out hb); have JNn := Aside0.mk (Kd.C_below JN.out hb); clear HE HB J1 J2 J3 JN d0 d1 d2 d3 d4 d5 d6 d7 d8 d9 hb; have HE := HEn; have HB := HBn; have J1 := J1n; have J2 := J2n; have J3 := J3n; have JN := JNn; clear HEn HBn J1n J2n J3n JNn; obtain ⟨d0, d1, d2, d3, d4, d5, d6, d7, d8, d9⟩ := cells10 HE.out) | (go_at_call 21; ((with_reducible refine (editor_long.calls _ Au cu s.undo _ _ J2.out h2c N2.out).mono ?_)); rintro e w2 ⟨rfl, hb⟩; have HEn := Aside0.mk (blk_below HE.out hb); have HBn := Aside0.mk (below_step HB.out hb); have J1n := Aside0.mk (Kd.C_below J1.out hb); have J2n := Aside0.mk (Kd.C_below J2.out hb); have J3n := Aside0.mk (Kd.C_below J3.out hb); have JNn := Aside0.mk (Kd.C_below JN.out hb); clear HE HB J1 J2 J3 JN d0 d1 d2 d3 d4 d5 d6 d7 d8 d9 hb; have HE := HEn; have HB := HBn; have J1 := J1n; have J2 := J2n; have J3 := J3n; have JN := JNn; clear HEn HBn J1n J2n J3n JNn; obtain ⟨d0, d1, d2, d3, d4, d5, d6, d7, d8, d9⟩ := cells10 HE.out) | (go_at_call 21; ((with_reducible refine (editor_long.calls _ Ar cr s.redo _ _ J3.out h3c N3.out).mono ?_)); rintro e w2 ⟨rfl, hb⟩; have HEn := Aside0.mk (blk_below HE.out hb); have HBn := Aside0.mk (below_step HB.out hb); have J1n := Aside0.mk (Kd.C_below J1.out hb); have J2n := Aside0.mk (Kd.C_below J2.out hb); have J3n := Aside0.mk (Kd.C_below J3.out hb); have JNn := Aside0.mk (Kd.C_below JN.out hb); clear HE HB J1 J2 J3 JN d0 d1 d2 d3 d4 d5 d6 d7 d8 d9 hb; have HE := HEn; have HB := HBn; have J1 := J1n; have J2 := J2n; have J3 := J3n; have JN := JNn; clear HEn HBn J1n J2n J3n JNn; obtain ⟨d0, d1, d2, d3, d4, d5, d6, d7, d8, d9⟩ := cells10 HE.out))
  go_loop [36] (fun v => ∃ i : Nat, i ≤ s.kills.length ∧ v = .int .i64 (i : Int)) (fun v => s.kills.length - (intOf v).toNat)
  case atStart => exact ⟨0, Nat.zero_le _, rfl⟩
  case round =>
    obtain ⟨i, hi0, rfl⟩ := hrel
    by_cases hi : i < s.kills.length
    · have z1 : (i : Int) < (s.kills.length : Int) := by omega
      rcases Ak with _ | ad
      · exact absurd J1.out (by intro hC; obtain ⟨ad, _, ha, _⟩ := Kd.C_get hC ByteArray.empty 0 (by omega) (by omega); cases ha)
      have hcell := Kd.foot_string J1.out (i : Int) (by omega) (by omega)
      have hsz := HKE.out i hi
      obtain ⟨y, hy⟩ : ∃ z, z = rdOf ByteArray.empty s.kills (i : Int) := ⟨_, rfl⟩
      rw [← hy] at hcell hsz
      have hz1 : decide (4096 < (y.size : Int)) = false := decide_eq_false (by omega)
      have hz2 : decide (4096 < y.size) = false := decide_eq_false (by omega)
      have e0 : (i : Int).toNat = i := by omega
      rw [e0] at hcell
      clear hy e0
      go_wp2
      go_round
      case rel => exact ⟨i + 1, by omega, by go_num⟩
      case measure => simp [intOf]; omega
    · have z1 : ¬ (i : Int) < (s.kills.length : Int) := by omega
      go_wp2_with (first | (go_at_call 22; ((with_reducible refine (pout_one _ _ ⟨s.text, s.pos⟩ _ JN.out N4.out).mono ?_)); rintro e w2 ⟨rfl, hb⟩; have HEn := Aside0.mk (blk_below HE.out hb); have HBn := Aside0.mk (below_step HB.out hb); have J1n := Aside0.mk (Kd.C_below J1.out hb); have J2n := Aside0.mk (Kd.C_below J2.out hb); have J3n := Aside0.mk (Kd.C_below J3.out hb); have JNn := Aside0.mk (Kd.C_below JN.out hb); clear HE HB J1 J2 J3 JN d0 d1 d2 d3 d4 d5 d6 d7 d8 d9 hb; have HE := HEn; have HB := HBn; have J1 := J1n; have J2 := J2n; have J3 := J3n; have JN := JNn; clear HEn HBn J1n J2n J3n JNn; obtain ⟨d0, d1, d2, d3, d4, d5, d6, d7, d8, d9⟩ := cells10 HE.out) | (go_at_call 22; ((with_reducible refine (editor_outside.calls _ Au cu s.undo _ _ J2.out h2c N5.out).mono ?_)); rintro e w2 ⟨rfl, hb⟩; have HEn := Aside0.mk (blk_below HE.out hb); have HBn := Aside0.mk (below_step HB.out hb); have J1n := Aside0.mk (Kd.C_below J1.out hb); have J2n := Aside0.mk (Kd.C_below J2.out hb); have J3n := Aside0.mk (Kd.C_below J3.out hb); have JNn := Aside0.mk (Kd.C_below JN.out hb); clear HE HB J1 J2 J3 JN d0 d1 d2 d3 d4 d5 d6 d7 d8 d9 hb; have HE := HEn; have HB := HBn; have J1 := J1n; have J2 := J2n; have J3 := J3n; have JN := JNn; clear HEn HBn J1n J2n J3n JNn; obtain ⟨d0, d1, d2, d3, d4, d5, d6, d7, d8, d9⟩ := cells10 HE.out) | (go_at_call 22; ((with_reducible refine (editor_outside.calls _ Ar cr s.redo _ _ J3.out h3c N6.out).mono ?_)); rintro e w2 ⟨rfl, hb⟩; have HEn := Aside0.mk (blk_below HE.out hb); have HBn := Aside0.mk (below_step HB.out hb); have J1n := Aside0.mk (Kd.C_below J1.out hb); have J2n := Aside0.mk (Kd.C_below J2.out hb); have J3n := Aside0.mk (Kd.C_below J3.out hb); have JNn := Aside0.mk (Kd.C_below JN.out hb); clear HE HB J1 J2 J3 JN d0 d1 d2 d3 d4 d5 d6 d7 d8 d9 hb; have HE := HEn; have HB := HBn; have J1 := J1n; have J2 := J2n; have J3 := J3n; have JN := JNn; clear HEn HBn J1n J2n J3n JNn; obtain ⟨d0, d1, d2, d3, d4, d5, d6, d7, d8, d9⟩ := cells10 HE.out))
      go_ret
      exact ⟨rfl, HB.out⟩
end Go.Proofs.Ytlbbjdggebgabaa.P
end
