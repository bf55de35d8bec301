/- Texts of this claim, joined: Px9. -/
import Derived.Test.YtlbbjdggebgabaaRUM3
import Derived.Test.YtlbbjdggebgabaaRUM5
section
namespace Go.Proofs.Ytlbbjdggebgabaa.P
open Go.RowKit Go.Proofs.YtlbbjdggebgabaaW.PrintWords Go.Proofs.YtlbbjdggebgabaaW.PrintLast Go.Proofs.YtlbbjdggebgabaaW.PrintMore
attribute [local go_sem] max2_int min2_int max_two min_two max_three min_three max_four min_four   -- for this text's walks alone
set_option linter.unusedVariables false
set_option linter.unusedSimpArgs false

mutual
def jobshellref46_Valid.j0 : Nat → Bool → ByteArray → Int → Int → List ByteArray → List (S23) → List (S23) → ByteArray → Int → Int → ByteArray → Option (Int)
  | 0, _, _, _, _, _, _, _, _, _, _, _ => none
  | k + 1, x36, x341000, x341001, x341002, x341003, x341004, x341005, x341006, x341007, x341008, x341009 => if x36 = true then (some 3) else ((jobshellref46_snap.f x341000 x341001 2).bind fun t345 => (if t345 = true then ((jobshellref46_snaps.f k x341004 2).bind fun t346 => (if t346 = true then ((jobshellref46_snaps.f k x341005 2).bind fun t347 => (if t347 = true then (if x341002 < 0 then (jobshellref46_Valid.j1 k true x341000 x341001 x341002 x341003 x341004 x341005 x341006 x341007 x341008 x341009) else (if x341002 > (x341000.size : Int) then (jobshellref46_Valid.j1 k true x341000 x341001 x341002 x341003 x341004 x341005 x341006 x341007 x341008 x341009) else (if x341007 < 0 then (jobshellref46_Valid.j1 k true x341000 x341001 x341002 x341003 x341004 x341005 x341006 x341007 x341008 x341009) else (if x341007 > 28 then (jobshellref46_Valid.j1 k true x341000 x341001 x341002 x341003 x341004 x341005 x341006 x341007 x341008 x341009) else (if x341008 < 0 then (jobshellref46_Valid.j1 k true x341000 x341001 x341002 x341003 x341004 x341005 x341006 x341007 x341008 x341009) else (jobshellref46_Valid.j1 k (decide (x341008 > 128)) x341000 x341001 x341002 x341003 x341004 x341005 x341006 x341007 x341008 x341009)))))) else (jobshellref46_Valid.j1 k true x341000 x341001 x341002 x341003 x341004 x341005 x341006 x341007 x341008 x341009))) else (jobshellref46_Valid.j1 k true x341000 x341001 x341002 x341003 x341004 x341005 x341006 x341007 x341008 x341009))) else (jobshellref46_Valid.j1 k true x341000 x341001 x341002 x341003 x341004 x341005 x341006 x341007 x341008 x341009)))
def jobshellref46_Valid.j1 : Nat → Bool → ByteArray → Int → Int → List ByteArray → List (S23) → List (S23) → ByteArray → Int → Int → ByteArray → Option (Int)
  | 0, _, _, _, _, _, _, _, _, _, _, _ => none
  | k + 1, x86, x341000, x341001, x341002, x341003, x341004, x341005, x341006, x341007, x341008, x341009 => if x86 = true then (some 2) else (if (x341003.length : Int) > 16 then (some 4) else (if (x341004.length : Int) > 64 then (some 4) else (if (x341005.length : Int) > 64 then (some 4) else (some 0))))
end
def jobshellref46_Valid.f (k : Nat) (a0_0 : ByteArray) (a0_1 : Int) (a0_2 : Int) (l0_3 : List ByteArray) (l0_4 : List (S23)) (l0_5 : List (S23)) (a0_6 : ByteArray) (a0_7 : Int) (a0_8 : Int) (a0_9 : ByteArray) : Option (Int) := (jobshellref46_snap.f a0_0 a0_1 3).bind fun t341 => (if t341 = true then ((jobshellref46_short.f k l0_3).bind fun t342 => (if t342 = true then (if (a0_9.size : Int) > 4096 then (jobshellref46_Valid.j0 k true a0_0 a0_1 a0_2 l0_3 l0_4 l0_5 a0_6 a0_7 a0_8 a0_9) else ((jobshellref46_snaps.f k l0_4 3).bind fun t343 => (if t343 = true then ((jobshellref46_snaps.f k l0_5 3).bind fun t344 => (if t344 = true then (jobshellref46_Valid.j0 k (decide ((a0_6.size : Int) > 16)) a0_0 a0_1 a0_2 l0_3 l0_4 l0_5 a0_6 a0_7 a0_8 a0_9) else (jobshellref46_Valid.j0 k true a0_0 a0_1 a0_2 l0_3 l0_4 l0_5 a0_6 a0_7 a0_8 a0_9))) else (jobshellref46_Valid.j0 k true a0_0 a0_1 a0_2 l0_3 l0_4 l0_5 a0_6 a0_7 a0_8 a0_9)))) else (jobshellref46_Valid.j0 k true a0_0 a0_1 a0_2 l0_3 l0_4 l0_5 a0_6 a0_7 a0_8 a0_9))) else (jobshellref46_Valid.j0 k true a0_0 a0_1 a0_2 l0_3 l0_4 l0_5 a0_6 a0_7 a0_8 a0_9))
set_option maxHeartbeats 8000000 in
set_option maxRecDepth 100000 in
theorem jobshellref46_Valid.calls (k : Nat) (a0_0 : ByteArray) (a0_1 : Int) (a0_2 : Int) (A0_3 : Option Addr) (c0_3 : Nat) (l0_3 : List ByteArray) (A0_4 : Option Addr) (c0_4 : Nat) (l0_4 : List (S23)) (A0_5 : Option Addr) (c0_5 : Nat) (l0_5 : List (S23)) (a0_6 : ByteArray) (a0_7 : Int) (a0_8 : Int) (a0_9 : ByteArray) (r : Int) (w : World) (hr0_3 : Kd.C Kd.string w A0_3 l0_3.length l0_3) (hc0_3 : l0_3.length ≤ c0_3) (hr0_4 : Kd.C k23 w A0_4 l0_4.length l0_4) (hc0_4 : l0_4.length ≤ c0_4) (hr0_5 : Kd.C k23 w A0_5 l0_5.length l0_5) (hc0_5 : l0_5.length ≤ c0_5) (h : jobshellref46_Valid.f k a0_0 a0_1 a0_2 l0_3 l0_4 l0_5 a0_6 a0_7 a0_8 a0_9 = some r) :
    Calls Try.prog 12 #[.agg #[.string a0_0, .int .i64 a0_1, .int .i64 a0_2, .slice A0_3 l0_3.length c0_3, .slice A0_4 l0_4.length c0_4, .slice A0_5 l0_5.length c0_5, .string a0_6, .int .i64 a0_7, .int .i64 a0_8, .string a0_9]] w fun e w' => e = .returned (.int .i64 r) ∧ Below w.heap.size w w' := by
  have hu27 := Try.underlying27
  have hu23 := Try.underlying23
  have HR0_3 := Aside0.mk hr0_3
  have HC0_3 := Aside0.mk hc0_3
  clear hr0_3 hc0_3
  have HR0_4 := Aside0.mk hr0_4
  have HC0_4 := Aside0.mk hc0_4
  clear hr0_4 hc0_4
  have HR0_5 := Aside0.mk hr0_5
  have HC0_5 := Aside0.mk hc0_5
  clear hr0_5 hc0_5
  have HB := Aside0.mk (Below.refl w.heap.size w)
  have H : ((jobshellref46_snap.f a0_0 a0_1 3).bind fun t341 => (if t341 = true then ((jobshellref46_short.f k l0_3).bind fun t342 => (if t342 = true then (if (a0_9.size : Int) > 4096 then (jobshellref46_Valid.j0 k true a0_0 a0_1 a0_2 l0_3 l0_4 l0_5 a0_6 a0_7 a0_8 a0_9) else ((jobshellref46_snaps.f k l0_4 3).bind fun t343 => (if t343 = true then ((jobshellref46_snaps.f k l0_5 3).bind fun t344 => (if t344 = true then (jobshellref46_Valid.j0 k (decide ((a0_6.size : Int) > 16)) a0_0 a0_1 a0_2 l0_3 l0_4 l0_5 a0_6 a0_7 a0_8 a0_9) else (jobshellref46_Valid.j0 k true a0_0 a0_1 a0_2 l0_3 l0_4 l0_5 a0_6 a0_7 a0_8 a0_9))) else (jobshellref46_Valid.j0 k true a0_0 a0_1 a0_2 l0_3 l0_4 l0_5 a0_6 a0_7 a0_8 a0_9)))) else (jobshellref46_Valid.j0 k true a0_0 a0_1 a0_2 l0_3 l0_4 l0_5 a0_6 a0_7 a0_8 a0_9))) else (jobshellref46_Valid.j0 k true a0_0 a0_1 a0_2 l0_3 l0_4 l0_5 a0_6 a0_7 a0_8 a0_9))) = some r := h
  clear h
  have HC2 := Aside0.mk H
  clear H
  go_enter Try.func12, Try.ntmps12
  go_upto_region 1 with (first | ((with_reducible refine gate_dst (N := 1) rfl ?_); (try (refine gate_guard (by rfl) ?_; dsimp only)); refine box_event ?hg (N := 1) ?hd (cs := #[.string a0_0, .int .i64 a0_1, .int .i64 a0_2, .slice A0_3 l0_3.length c0_3, .slice A0_4 l0_4.length c0_4, .slice A0_5 l0_5.length c0_5, .string a0_6, .int .i64 a0_7, .int .i64 a0_8, .string a0_9]) (t := 27) ?hr ?_; (case hd => rfl); (case hg => rfl); (case hr => first | (go_simp; done) | (go_simp; rfl)); intro gb340 hg w3 hbox hb; have n0_ := Aside0.mk (below_step (by repeat (first | (with_reducible first | exact HB.out | apply below_alloc | apply pw_below_drewN | apply below_drew1) | exact HB.out)) hb); have n1_ := Aside0.mk (hbox); have n2_ := Aside0.mk ((by rw [hg]; exact (below_size (by repeat (first | (with_reducible first | exact HB.out | apply below_alloc | apply pw_below_drewN | apply below_drew1) | exact HB.out))) : w.heap.size ≤ gb340)); have n3_ := Aside0.mk ((by rw [hg]; exact (below_size (by repeat (first | (with_reducible first | exact HB.out | apply below_alloc | apply pw_below_drewN | apply below_drew1) | exact HB.out))) : w.heap.size ≤ gb340)); clear HB; have HB := n0_; have BK340 := n1_; have GW340 := n2_; have GE340 := n3_; clear n0_ n1_ n2_ n3_; clear hb hbox hg))
  (try simp only [Act.put, List.setIfInBounds_toArray, List.set_cons_zero, List.set_cons_succ])
  go_cut [36] (fun v36 wc => ∃ (kq : Nat) (x36_1 : Bool), v36 = .bool x36_1 ∧ Aside0 (jobshellref46_Valid.j0 kq x36_1 a0_0 a0_1 a0_2 l0_3 l0_4 l0_5 a0_6 a0_7 a0_8 a0_9 = some r) ∧ Aside0 (kq ≤ k) ∧ Aside0 (wc.heap[gb340]? = some (.cells #[.string a0_0, .int .i64 a0_1, .int .i64 a0_2, (.slice A0_3 l0_3.length c0_3), (.slice A0_4 l0_4.length c0_4), (.slice A0_5 l0_5.length c0_5), .string a0_6, .int .i64 a0_7, .int .i64 a0_8, .string a0_9] 27 (0, 0))) ∧ Aside0 (Below w.heap.size w wc))
  case first =>
    have H := HC2.out
    clear HC2
    replace H := Option.bind_eq_some_iff.mp H
    obtain ⟨t341, A40, H⟩ := H
    replace H : (if t341 = true then ((jobshellref46_short.f k l0_3).bind fun t342 => (if t342 = true then (if (a0_9.size : Int) > 4096 then (jobshellref46_Valid.j0 k true a0_0 a0_1 a0_2 l0_3 l0_4 l0_5 a0_6 a0_7 a0_8 a0_9) else ((jobshellref46_snaps.f k l0_4 3).bind fun t343 => (if t343 = true then ((jobshellref46_snaps.f k l0_5 3).bind fun t344 => (if t344 = true then (jobshellref46_Valid.j0 k (decide ((a0_6.size : Int) > 16)) a0_0 a0_1 a0_2 l0_3 l0_4 l0_5 a0_6 a0_7 a0_8 a0_9) else (jobshellref46_Valid.j0 k true a0_0 a0_1 a0_2 l0_3 l0_4 l0_5 a0_6 a0_7 a0_8 a0_9))) else (jobshellref46_Valid.j0 k true a0_0 a0_1 a0_2 l0_3 l0_4 l0_5 a0_6 a0_7 a0_8 a0_9)))) else (jobshellref46_Valid.j0 k true a0_0 a0_1 a0_2 l0_3 l0_4 l0_5 a0_6 a0_7 a0_8 a0_9))) else (jobshellref46_Valid.j0 k true a0_0 a0_1 a0_2 l0_3 l0_4 l0_5 a0_6 a0_7 a0_8 a0_9)) = some r := H
    have A4 := Aside0.mk A40
    clear A40
    by_cases c5 : t341 = true
    · subst c5
      have H1 : ((jobshellref46_short.f k l0_3).bind fun t342 => (if t342 = true then (if (a0_9.size : Int) > 4096 then (jobshellref46_Valid.j0 k true a0_0 a0_1 a0_2 l0_3 l0_4 l0_5 a0_6 a0_7 a0_8 a0_9) else ((jobshellref46_snaps.f k l0_4 3).bind fun t343 => (if t343 = true then ((jobshellref46_snaps.f k l0_5 3).bind fun t344 => (if t344 = true then (jobshellref46_Valid.j0 k (decide ((a0_6.size : Int) > 16)) a0_0 a0_1 a0_2 l0_3 l0_4 l0_5 a0_6 a0_7 a0_8 a0_9) else (jobshellref46_Valid.j0 k true a0_0 a0_1 a0_2 l0_3 l0_4 l0_5 a0_6 a0_7 a0_8 a0_9))) else (jobshellref46_Valid.j0 k true a0_0 a0_1 a0_2 l0_3 l0_4 l0_5 a0_6 a0_7 a0_8 a0_9)))) else (jobshellref46_Valid.j0 k true a0_0 a0_1 a0_2 l0_3 l0_4 l0_5 a0_6 a0_7 a0_8 a0_9))) = some r := by rw [if_pos rfl] at H; exact H
      clear H
      have H := H1
      clear H1
      replace H := Option.bind_eq_some_iff.mp H
      obtain ⟨t342, A60, H⟩ := H
      replace H : (if t342 = true then (if (a0_9.size : Int) > 4096 then (jobshellref46_Valid.j0 k true a0_0 a0_1 a0_2 l0_3 l0_4 l0_5 a0_6 a0_7 a0_8 a0_9) else ((jobshellref46_snaps.f k l0_4 3).bind fun t343 => (if t343 = true then ((jobshellref46_snaps.f k l0_5 3).bind fun t344 => (if t344 = true then (jobshellref46_Valid.j0 k (decide ((a0_6.size : Int) > 16)) a0_0 a0_1 a0_2 l0_3 l0_4 l0_5 a0_6 a0_7 a0_8 a0_9) else (jobshellref46_Valid.j0 k true a0_0 a0_1 a0_2 l0_3 l0_4 l0_5 a0_6 a0_7 a0_8 a0_9))) else (jobshellref46_Valid.j0 k true a0_0 a0_1 a0_2 l0_3 l0_4 l0_5 a0_6 a0_7 a0_8 a0_9)))) else (jobshellref46_Valid.j0 k true a0_0 a0_1 a0_2 l0_3 l0_4 l0_5 a0_6 a0_7 a0_8 a0_9)) = some r := H
      have A6 := Aside0.mk A60
      clear A60
      by_cases c7 : t342 = true
      · subst c7
        have H1 : (if (a0_9.size : Int) > 4096 then (jobshellref46_Valid.j0 k true a0_0 a0_1 a0_2 l0_3 l0_4 l0_5 a0_6 a0_7 a0_8 a0_9) else ((jobshellref46_snaps.f k l0_4 3).bind fun t343 => (if t343 = true then ((jobshellref46_snaps.f k l0_5 3).bind fun t344 => (if t344 = true then (jobshellref46_Valid.j0 k (decide ((a0_6.size : Int) > 16)) a0_0 a0_1 a0_2 l0_3 l0_4 l0_5 a0_6 a0_7 a0_8 a0_9) else (jobshellref46_Valid.j0 k true a0_0 a0_1 a0_2 l0_3 l0_4 l0_5 a0_6 a0_7 a0_8 a0_9))) else (jobshellref46_Valid.j0 k true a0_0 a0_1 a0_2 l0_3 l0_4 l0_5 a0_6 a0_7 a0_8 a0_9)))) = some r := by rw [if_pos rfl] at H; exact H
        clear H
        have H := H1
        clear H1
        by_cases c8 : (a0_9.size : Int) > 4096
        · rw [if_pos c8] at H
          have c8b0 : decide (4096 < (a0_9.size : Int)) = true := decide_eq_true c8
          have c8b1 : decide (4096 < a0_9.size) = true := decide_eq_true (by omega)
          clear c8
          (first | rw [c8b0] | (simp only [i64_w, i32_w]; rw [c8b0]) | skip)
          have H' := Aside0.mk H
          clear H
          have hcz9_0 : w3.cell? ⟨gb340, 0, none⟩ = some (.string a0_0) := (blk_cell BK340.out 0).trans rfl
          have hcz9_1 : w3.cell? ⟨gb340, 1, none⟩ = some (.int .i64 a0_1) := (blk_cell BK340.out 1).trans rfl
          have hcz9_2 : w3.cell? ⟨gb340, 2, none⟩ = some (.int .i64 a0_2) := (blk_cell BK340.out 2).trans rfl
          have hcz9_3 : w3.cell? ⟨gb340, 3, none⟩ = some (.slice A0_3 l0_3.length c0_3) := (blk_cell BK340.out 3).trans rfl
          have hcz9_4 : w3.cell? ⟨gb340, 4, none⟩ = some (.slice A0_4 l0_4.length c0_4) := (blk_cell BK340.out 4).trans rfl
          have hcz9_5 : w3.cell? ⟨gb340, 5, none⟩ = some (.slice A0_5 l0_5.length c0_5) := (blk_cell BK340.out 5).trans rfl
          have hcz9_6 : w3.cell? ⟨gb340, 6, none⟩ = some (.string a0_6) := (blk_cell BK340.out 6).trans rfl
          have hcz9_7 : w3.cell? ⟨gb340, 7, none⟩ = some (.int .i64 a0_7) := (blk_cell BK340.out 7).trans rfl
          have hcz9_8 : w3.cell? ⟨gb340, 8, none⟩ = some (.int .i64 a0_8) := (blk_cell BK340.out 8).trans rfl
          have hcz9_9 : w3.cell? ⟨gb340, 9, none⟩ = some (.string a0_9) := (blk_cell BK340.out 9).trans rfl
          have hfz9_0 := blk_frozen BK340.out 0
          have hfz9_1 := blk_frozen BK340.out 1
          have hfz9_2 := blk_frozen BK340.out 2
          have hfz9_3 := blk_frozen BK340.out 3
          have hfz9_4 := blk_frozen BK340.out 4
          have hfz9_5 := blk_frozen BK340.out 5
          have hfz9_6 := blk_frozen BK340.out 6
          have hfz9_7 := blk_frozen BK340.out 7
          have hfz9_8 := blk_frozen BK340.out 8
          have hfz9_9 := blk_frozen BK340.out 9
          go_wp2_with (first | ((with_reducible refine gate_callee (f := 23) rfl ?_); refine goesL_ (some 5) rfl rfl Try.func23 (by kernel_rfl) rfl #[.agg #[.string a0_0, .int .i64 a0_1], .int .i64 3] rfl (by (try simp only [List.map_toArray, List.map_cons, List.map_nil]); first | done | rfl | (simp only [List.length_drop, List.length_take]; rfl)) ?_; (with_reducible refine (jobshellref46_snap.calls a0_0 a0_1 3 true _ A4.out).mono ?_); rintro e w10 ⟨rfl, hb⟩; refine ⟨_, rfl, ?_⟩; have n0_ := Aside0.mk (blk_below (g := gb340) (o := .cells #[.string a0_0, .int .i64 a0_1, .int .i64 a0_2, .slice A0_3 l0_3.length c0_3, .slice A0_4 l0_4.length c0_4, .slice A0_5 l0_5.length c0_5, .string a0_6, .int .i64 a0_7, .int .i64 a0_8, .string a0_9] 27 (0, 0)) (by (with_reducible repeat (first | refine blk_drewN ?_ _ | refine blk_drew ?_ | refine blk_alloc ?_ _)); exact BK340.out) hb); have n1_ := Aside0.mk (below_step (by repeat (first | (with_reducible first | exact HB.out | apply below_alloc | apply pw_below_drewN | apply below_drew1 | refine below_set ?_ GE340.out) | exact HB.out)) hb); clear BK340; clear HB; have BK340 := n0_; have HB := n1_; clear n0_ n1_; (try clear hb); (try clear hb2); (try clear hk); (try clear hi); have hcz11_0 : w10.cell? ⟨gb340, 0, none⟩ = some (.string a0_0) := (blk_cell BK340.out 0).trans rfl; have hcz11_1 : w10.cell? ⟨gb340, 1, none⟩ = some (.int .i64 a0_1) := (blk_cell BK340.out 1).trans rfl; have hcz11_2 : w10.cell? ⟨gb340, 2, none⟩ = some (.int .i64 a0_2) := (blk_cell BK340.out 2).trans rfl; have hcz11_3 : w10.cell? ⟨gb340, 3, none⟩ = some (.slice A0_3 l0_3.length c0_3) := (blk_cell BK340.out 3).trans rfl; have hcz11_4 : w10.cell? ⟨gb340, 4, none⟩ = some (.slice A0_4 l0_4.length c0_4) := (blk_cell BK340.out 4).trans rfl; have hcz11_5 : w10.cell? ⟨gb340, 5, none⟩ = some (.slice A0_5 l0_5.length c0_5) := (blk_cell BK340.out 5).trans rfl; have hcz11_6 : w10.cell? ⟨gb340, 6, none⟩ = some (.string a0_6) := (blk_cell BK340.out 6).trans rfl; have hcz11_7 : w10.cell? ⟨gb340, 7, none⟩ = some (.int .i64 a0_7) := (blk_cell BK340.out 7).trans rfl; have hcz11_8 : w10.cell? ⟨gb340, 8, none⟩ = some (.int .i64 a0_8) := (blk_cell BK340.out 8).trans rfl; have hcz11_9 : w10.cell? ⟨gb340, 9, none⟩ = some (.string a0_9) := (blk_cell BK340.out 9).trans rfl; have hfz11_0 := blk_frozen BK340.out 0; have hfz11_1 := blk_frozen BK340.out 1; have hfz11_2 := blk_frozen BK340.out 2; have hfz11_3 := blk_frozen BK340.out 3; have hfz11_4 := blk_frozen BK340.out 4; have hfz11_5 := blk_frozen BK340.out 5; have hfz11_6 := blk_frozen BK340.out 6; have hfz11_7 := blk_frozen BK340.out 7; have hfz11_8 := blk_frozen BK340.out 8; have hfz11_9 := blk_frozen BK340.out 9) | (go_at_call 24; (with_reducible refine (jobshellref46_short.calls k _ _ l0_3 true _ ?side1 ?side2 A6.out).mono ?_); (case side1 => repeat (first | exact (Kd.C_below HR0_3.out HB.out) | (with_reducible refine Kd.C_alloc ?_ _) | (with_reducible refine Kd.C_drewN ?_ _) | (with_reducible refine Kd.C_drew ?_))); (case side2 => exact HC0_3.out); rintro e w' ⟨rfl, ⟨nd, rfl⟩⟩))
          go_meet
          case rel => exact ⟨_, (true), (by first | rfl | (simp; done) | (simp [*]; done)), H', ⟨by first | omega | exact Nat.le_refl _⟩, ⟨by (with_reducible repeat (first | refine blk_drewN ?_ _ | refine blk_drew ?_ | refine blk_alloc ?_ _)); exact BK340.out⟩, ⟨by repeat (first | (with_reducible first | exact HB.out | apply below_alloc | apply pw_below_drewN | apply below_drew1 | refine below_set ?_ GE340.out) | exact HB.out)⟩⟩
        · rw [if_neg c8] at H
          have c8b0 : decide (4096 < (a0_9.size : Int)) = false := decide_eq_false c8
          have c8b1 : decide (4096 < a0_9.size) = false := decide_eq_false (by omega)
          clear c8
          (first | rw [c8b0] | (simp only [i64_w, i32_w]; rw [c8b0]) | skip)
          replace H := Option.bind_eq_some_iff.mp H
          obtain ⟨t343, A120, H⟩ := H
          replace H : (if t343 = true then ((jobshellref46_snaps.f k l0_5 3).bind fun t344 => (if t344 = true then (jobshellref46_Valid.j0 k (decide ((a0_6.size : Int) > 16)) a0_0 a0_1 a0_2 l0_3 l0_4 l0_5 a0_6 a0_7 a0_8 a0_9) else (jobshellref46_Valid.j0 k true a0_0 a0_1 a0_2 l0_3 l0_4 l0_5 a0_6 a0_7 a0_8 a0_9))) else (jobshellref46_Valid.j0 k true a0_0 a0_1 a0_2 l0_3 l0_4 l0_5 a0_6 a0_7 a0_8 a0_9)) = some r := H
          have A12 := Aside0.mk A120
          clear A120
          by_cases c13 : t343 = true
          · subst c13
            have H1 : ((jobshellref46_snaps.f k l0_5 3).bind fun t344 => (if t344 = true then (jobshellref46_Valid.j0 k (decide ((a0_6.size : Int) > 16)) a0_0 a0_1 a0_2 l0_3 l0_4 l0_5 a0_6 a0_7 a0_8 a0_9) else (jobshellref46_Valid.j0 k true a0_0 a0_1 a0_2 l0_3 l0_4 l0_5 a0_6 a0_7 a0_8 a0_9))) = some r := by rw [if_pos rfl] at H; exact H
            clear H
            have H := H1
            clear H1
            replace H := Option.bind_eq_some_iff.mp H
            obtain ⟨t344, A140, H⟩ := H
            replace H : (if t344 = true then (jobshellref46_Valid.j0 k (decide ((a0_6.size : Int) > 16)) a0_0 a0_1 a0_2 l0_3 l0_4 l0_5 a0_6 a0_7 a0_8 a0_9) else (jobshellref46_Valid.j0 k true a0_0 a0_1 a0_2 l0_3 l0_4 l0_5 a0_6 a0_7 a0_8 a0_9)) = some r := H
            have A14 := Aside0.mk A140
            clear A140
            by_cases c15 : t344 = true
            · subst c15
              have H1 : (jobshellref46_Valid.j0 k (decide ((a0_6.size : Int) > 16)) a0_0 a0_1 a0_2 l0_3 l0_4 l0_5 a0_6 a0_7 a0_8 a0_9) = some r := by rw [if_pos rfl] at H; exact H
              clear H
              have H := H1
              clear H1
              have H' := Aside0.mk H
              clear H
              have hcz16_0 : w3.cell? ⟨gb340, 0, none⟩ = some (.string a0_0) := (blk_cell BK340.out 0).trans rfl
              have hcz16_1 : w3.cell? ⟨gb340, 1, none⟩ = some (.int .i64 a0_1) := (blk_cell BK340.out 1).trans rfl
              have hcz16_2 : w3.cell? ⟨gb340, 2, none⟩ = some (.int .i64 a0_2) := (blk_cell BK340.out 2).trans rfl
              have hcz16_3 : w3.cell? ⟨gb340, 3, none⟩ = some (.slice A0_3 l0_3.length c0_3) := (blk_cell BK340.out 3).trans rfl
              have hcz16_4 : w3.cell? ⟨gb340, 4, none⟩ = some (.slice A0_4 l0_4.length c0_4) := (blk_cell BK340.out 4).trans rfl
              have hcz16_5 : w3.cell? ⟨gb340, 5, none⟩ = some (.slice A0_5 l0_5.length c0_5) := (blk_cell BK340.out 5).trans rfl
              have hcz16_6 : w3.cell? ⟨gb340, 6, none⟩ = some (.string a0_6) := (blk_cell BK340.out 6).trans rfl
              have hcz16_7 : w3.cell? ⟨gb340, 7, none⟩ = some (.int .i64 a0_7) := (blk_cell BK340.out 7).trans rfl
              have hcz16_8 : w3.cell? ⟨gb340, 8, none⟩ = some (.int .i64 a0_8) := (blk_cell BK340.out 8).trans rfl
              have hcz16_9 : w3.cell? ⟨gb340, 9, none⟩ = some (.string a0_9) := (blk_cell BK340.out 9).trans rfl
              have hfz16_0 := blk_frozen BK340.out 0
              have hfz16_1 := blk_frozen BK340.out 1
              have hfz16_2 := blk_frozen BK340.out 2
              have hfz16_3 := blk_frozen BK340.out 3
              have hfz16_4 := blk_frozen BK340.out 4
              have hfz16_5 := blk_frozen BK340.out 5
              have hfz16_6 := blk_frozen BK340.out 6
              have hfz16_7 := blk_frozen BK340.out 7
              have hfz16_8 := blk_frozen BK340.out 8
              have hfz16_9 := blk_frozen BK340.out 9
              go_wp2_with (first | ((with_reducible refine gate_callee (f := 23) rfl ?_); refine goesL_ (some 5) rfl rfl Try.func23 (by kernel_rfl) rfl #[.agg #[.string a0_0, .int .i64 a0_1], .int .i64 3] rfl (by (try simp only [List.map_toArray, List.map_cons, List.map_nil]); first | done | rfl | (simp only [List.length_drop, List.length_take]; rfl)) ?_; (with_reducible refine (jobshellref46_snap.calls a0_0 a0_1 3 true _ A4.out).mono ?_); rintro e w17 ⟨rfl, hb⟩; refine ⟨_, rfl, ?_⟩; have n0_ := Aside0.mk (blk_below (g := gb340) (o := .cells #[.string a0_0, .int .i64 a0_1, .int .i64 a0_2, .slice A0_3 l0_3.length c0_3, .slice A0_4 l0_4.length c0_4, .slice A0_5 l0_5.length c0_5, .string a0_6, .int .i64 a0_7, .int .i64 a0_8, .string a0_9] 27 (0, 0)) (by (with_reducible repeat (first | refine blk_drewN ?_ _ | refine blk_drew ?_ | refine blk_alloc ?_ _)); exact BK340.out) hb); have n1_ := Aside0.mk (below_step (by repeat (first | (with_reducible first | exact HB.out | apply below_alloc | apply pw_below_drewN | apply below_drew1 | refine below_set ?_ GE340.out) | exact HB.out)) hb); clear BK340; clear HB; have BK340 := n0_; have HB := n1_; clear n0_ n1_; (try clear hb); (try clear hb2); (try clear hk); (try clear hi); have hcz18_0 : w17.cell? ⟨gb340, 0, none⟩ = some (.string a0_0) := (blk_cell BK340.out 0).trans rfl; have hcz18_1 : w17.cell? ⟨gb340, 1, none⟩ = some (.int .i64 a0_1) := (blk_cell BK340.out 1).trans rfl; have hcz18_2 : w17.cell? ⟨gb340, 2, none⟩ = some (.int .i64 a0_2) := (blk_cell BK340.out 2).trans rfl; have hcz18_3 : w17.cell? ⟨gb340, 3, none⟩ = some (.slice A0_3 l0_3.length c0_3) := (blk_cell BK340.out 3).trans rfl; have hcz18_4 : w17.cell? ⟨gb340, 4, none⟩ = some (.slice A0_4 l0_4.length c0_4) := (blk_cell BK340.out 4).trans rfl; have hcz18_5 : w17.cell? ⟨gb340, 5, none⟩ = some (.slice A0_5 l0_5.length c0_5) := (blk_cell BK340.out 5).trans rfl; have hcz18_6 : w17.cell? ⟨gb340, 6, none⟩ = some (.string a0_6) := (blk_cell BK340.out 6).trans rfl; have hcz18_7 : w17.cell? ⟨gb340, 7, none⟩ = some (.int .i64 a0_7) := (blk_cell BK340.out 7).trans rfl; have hcz18_8 : w17.cell? ⟨gb340, 8, none⟩ = some (.int .i64 a0_8) := (blk_cell BK340.out 8).trans rfl; have hcz18_9 : w17.cell? ⟨gb340, 9, none⟩ = some (.string a0_9) := (blk_cell BK340.out 9).trans rfl; have hfz18_0 := blk_frozen BK340.out 0; have hfz18_1 := blk_frozen BK340.out 1; have hfz18_2 := blk_frozen BK340.out 2; have hfz18_3 := blk_frozen BK340.out 3; have hfz18_4 := blk_frozen BK340.out 4; have hfz18_5 := blk_frozen BK340.out 5; have hfz18_6 := blk_frozen BK340.out 6; have hfz18_7 := blk_frozen BK340.out 7; have hfz18_8 := blk_frozen BK340.out 8; have hfz18_9 := blk_frozen BK340.out 9) | (go_at_call 24; (with_reducible refine (jobshellref46_short.calls k _ _ l0_3 true _ ?side1 ?side2 A6.out).mono ?_); (case side1 => repeat (first | exact (Kd.C_below HR0_3.out HB.out) | (with_reducible refine Kd.C_alloc ?_ _) | (with_reducible refine Kd.C_drewN ?_ _) | (with_reducible refine Kd.C_drew ?_))); (case side2 => exact HC0_3.out); rintro e w' ⟨rfl, ⟨nd, rfl⟩⟩) | (go_at_call 25; (with_reducible refine (jobshellref46_snaps.calls k _ _ l0_4 3 true _ ?side1 ?side2 A12.out).mono ?_); (case side1 => repeat (first | exact (Kd.C_below HR0_4.out (by repeat (first | (with_reducible first | exact HB.out | apply below_alloc | apply pw_below_drewN | apply below_drew1 | refine below_set ?_ GE340.out) | exact HB.out))) | (with_reducible refine Kd.C_alloc ?_ _) | (with_reducible refine Kd.C_drewN ?_ _) | (with_reducible refine Kd.C_drew ?_))); (case side2 => exact HC0_4.out); rintro e w19 ⟨rfl, hb⟩; have n0_ := Aside0.mk (blk_below (g := gb340) (o := .cells #[.string a0_0, .int .i64 a0_1, .int .i64 a0_2, .slice A0_3 l0_3.length c0_3, .slice A0_4 l0_4.length c0_4, .slice A0_5 l0_5.length c0_5, .string a0_6, .int .i64 a0_7, .int .i64 a0_8, .string a0_9] 27 (0, 0)) (by (with_reducible repeat (first | refine blk_drewN ?_ _ | refine blk_drew ?_ | refine blk_alloc ?_ _)); exact BK340.out) hb); have n1_ := Aside0.mk (below_step (by repeat (first | (with_reducible first | exact HB.out | apply below_alloc | apply pw_below_drewN | apply below_drew1 | refine below_set ?_ GE340.out) | exact HB.out)) hb); clear BK340; clear HB; have BK340 := n0_; have HB := n1_; clear n0_ n1_; (try clear hb); (try clear hb2); (try clear hk); (try clear hi); have hcz20_0 : w19.cell? ⟨gb340, 0, none⟩ = some (.string a0_0) := (blk_cell BK340.out 0).trans rfl; have hcz20_1 : w19.cell? ⟨gb340, 1, none⟩ = some (.int .i64 a0_1) := (blk_cell BK340.out 1).trans rfl; have hcz20_2 : w19.cell? ⟨gb340, 2, none⟩ = some (.int .i64 a0_2) := (blk_cell BK340.out 2).trans rfl; have hcz20_3 : w19.cell? ⟨gb340, 3, none⟩ = some (.slice A0_3 l0_3.length c0_3) := (blk_cell BK340.out 3).trans rfl; have hcz20_4 : w19.cell? ⟨gb340, 4, none⟩ = some (.slice A0_4 l0_4.length c0_4) := (blk_cell BK340.out 4).trans rfl; have hcz20_5 : w19.cell? ⟨gb340, 5, none⟩ = some (.slice A0_5 l0_5.length c0_5) := (blk_cell BK340.out 5).trans rfl; have hcz20_6 : w19.cell? ⟨gb340, 6, none⟩ = some (.string a0_6) := (blk_cell BK340.out 6).trans rfl; have hcz20_7 : w19.cell? ⟨gb340, 7, none⟩ = some (.int .i64 a0_7) := (blk_cell BK340.out 7).trans rfl; have hcz20_8 : w19.cell? ⟨gb340, 8, none⟩ = some (.int .i64 a0_8) := (blk_cell BK340.out 8).trans rfl; have hcz20_9 : w19.cell? ⟨gb340, 9, none⟩ = some (.string a0_9) := (blk_cell BK340.out 9).trans rfl; have hfz20_0 := blk_frozen BK340.out 0; have hfz20_1 := blk_frozen BK340.out 1; have hfz20_2 := blk_frozen BK340.out 2; have hfz20_3 := blk_frozen BK340.out 3; have hfz20_4 := blk_frozen BK340.out 4; have hfz20_5 := blk_frozen BK340.out 5; have hfz20_6 := blk_frozen BK340.out 6; have hfz20_7 := blk_frozen BK340.out 7; have hfz20_8 := blk_frozen BK340.out 8; have hfz20_9 := blk_frozen BK340.out 9) | (go_at_call 25; (with_reducible refine (jobshellref46_snaps.calls k _ _ l0_5 3 true _ ?side1 ?side2 A14.out).mono ?_); (case side1 => repeat (first | exact (Kd.C_below HR0_5.out HB.out) | (with_reducible refine Kd.C_alloc ?_ _) | (with_reducible refine Kd.C_drewN ?_ _) | (with_reducible refine Kd.C_drew ?_))); (case side2 => exact HC0_5.out); rintro e w21 ⟨rfl, hb⟩; have n0_ := Aside0.mk (blk_below (g := gb340) (o := .cells #[.string a0_0, .int .i64 a0_1, .int .i64 a0_2, .slice A0_3 l0_3.length c0_3, .slice A0_4 l0_4.length c0_4, .slice A0_5 l0_5.length c0_5, .string a0_6, .int .i64 a0_7, .int .i64 a0_8, .string a0_9] 27 (0, 0)) (by (with_reducible repeat (first | refine blk_drewN ?_ _ | refine blk_drew ?_ | refine blk_alloc ?_ _)); exact BK340.out) hb); have n1_ := Aside0.mk (below_step (by repeat (first | (with_reducible first | exact HB.out | apply below_alloc | apply pw_below_drewN | apply below_drew1 | refine below_set ?_ GE340.out) | exact HB.out)) hb); clear BK340; clear HB; have BK340 := n0_; have HB := n1_; clear n0_ n1_; (try clear hb); (try clear hb2); (try clear hk); (try clear hi); have hcz22_0 : w21.cell? ⟨gb340, 0, none⟩ = some (.string a0_0) := (blk_cell BK340.out 0).trans rfl; have hcz22_1 : w21.cell? ⟨gb340, 1, none⟩ = some (.int .i64 a0_1) := (blk_cell BK340.out 1).trans rfl; have hcz22_2 : w21.cell? ⟨gb340, 2, none⟩ = some (.int .i64 a0_2) := (blk_cell BK340.out 2).trans rfl; have hcz22_3 : w21.cell? ⟨gb340, 3, none⟩ = some (.slice A0_3 l0_3.length c0_3) := (blk_cell BK340.out 3).trans rfl; have hcz22_4 : w21.cell? ⟨gb340, 4, none⟩ = some (.slice A0_4 l0_4.length c0_4) := (blk_cell BK340.out 4).trans rfl; have hcz22_5 : w21.cell? ⟨gb340, 5, none⟩ = some (.slice A0_5 l0_5.length c0_5) := (blk_cell BK340.out 5).trans rfl; have hcz22_6 : w21.cell? ⟨gb340, 6, none⟩ = some (.string a0_6) := (blk_cell BK340.out 6).trans rfl; have hcz22_7 : w21.cell? ⟨gb340, 7, none⟩ = some (.int .i64 a0_7) := (blk_cell BK340.out 7).trans rfl; have hcz22_8 : w21.cell? ⟨gb340, 8, none⟩ = some (.int .i64 a0_8) := (blk_cell BK340.out 8).trans rfl; have hcz22_9 : w21.cell? ⟨gb340, 9, none⟩ = some (.string a0_9) := (blk_cell BK340.out 9).trans rfl; have hfz22_0 := blk_frozen BK340.out 0; have hfz22_1 := blk_frozen BK340.out 1; have hfz22_2 := blk_frozen BK340.out 2; have hfz22_3 := blk_frozen BK340.out 3; have hfz22_4 := blk_frozen BK340.out 4; have hfz22_5 := blk_frozen BK340.out 5; have hfz22_6 := blk_frozen BK340.out 6; have hfz22_7 := blk_frozen BK340.out 7; have hfz22_8 := blk_frozen BK340.out 8; have hfz22_9 := blk_frozen BK340.out 9))
              go_meet
              case rel => exact ⟨_, (decide ((a0_6.size : Int) > 16)), (by first | rfl | (simp; done) | (simp [*]; done)), H', ⟨by first | omega | exact Nat.le_refl _⟩, ⟨by (with_reducible repeat (first | refine blk_drewN ?_ _ | refine blk_drew ?_ | refine blk_alloc ?_ _)); exact BK340.out⟩, ⟨by repeat (first | (with_reducible first | exact HB.out | apply below_alloc | apply pw_below_drewN | apply below_drew1 | refine below_set ?_ GE340.out) | exact HB.out)⟩⟩
            · replace c15 := Bool.eq_false_iff.mpr c15
              subst c15
              have H1 : (jobshellref46_Valid.j0 k true a0_0 a0_1 a0_2 l0_3 l0_4 l0_5 a0_6 a0_7 a0_8 a0_9) = some r := by rw [if_neg (show ¬ (false = true) by decide)] at H; exact H
              clear H
              have H := H1
              clear H1
              have H' := Aside0.mk H
              clear H
              have hcz23_0 : w3.cell? ⟨gb340, 0, none⟩ = some (.string a0_0) := (blk_cell BK340.out 0).trans rfl
              have hcz23_1 : w3.cell? ⟨gb340, 1, none⟩ = some (.int .i64 a0_1) := (blk_cell BK340.out 1).trans rfl
              have hcz23_2 : w3.cell? ⟨gb340, 2, none⟩ = some (.int .i64 a0_2) := (blk_cell BK340.out 2).trans rfl
              have hcz23_3 : w3.cell? ⟨gb340, 3, none⟩ = some (.slice A0_3 l0_3.length c0_3) := (blk_cell BK340.out 3).trans rfl
              have hcz23_4 : w3.cell? ⟨gb340, 4, none⟩ = some (.slice A0_4 l0_4.length c0_4) := (blk_cell BK340.out 4).trans rfl
              have hcz23_5 : w3.cell? ⟨gb340, 5, none⟩ = some (.slice A0_5 l0_5.length c0_5) := (blk_cell BK340.out 5).trans rfl
              have hcz23_6 : w3.cell? ⟨gb340, 6, none⟩ = some (.string a0_6) := (blk_cell BK340.out 6).trans rfl
              have hcz23_7 : w3.cell? ⟨gb340, 7, none⟩ = some (.int .i64 a0_7) := (blk_cell BK340.out 7).trans rfl
              have hcz23_8 : w3.cell? ⟨gb340, 8, none⟩ = some (.int .i64 a0_8) := (blk_cell BK340.out 8).trans rfl
              have hcz23_9 : w3.cell? ⟨gb340, 9, none⟩ = some (.string a0_9) := (blk_cell BK340.out 9).trans rfl
              have hfz23_0 := blk_frozen BK340.out 0
              have hfz23_1 := blk_frozen BK340.out 1
              have hfz23_2 := blk_frozen BK340.out 2
              have hfz23_3 := blk_frozen BK340.out 3
              have hfz23_4 := blk_frozen BK340.out 4
              have hfz23_5 := blk_frozen BK340.out 5
              have hfz23_6 := blk_frozen BK340.out 6
              have hfz23_7 := blk_frozen BK340.out 7
              have hfz23_8 := blk_frozen BK340.out 8
              have hfz23_9 := blk_frozen BK340.out 9
              go_wp2_with (first | ((with_reducible refine gate_callee (f := 23) rfl ?_); refine goesL_ (some 5) rfl rfl Try.func23 (by kernel_rfl) rfl #[.agg #[.string a0_0, .int .i64 a0_1], .int .i64 3] rfl (by (try simp only [List.map_toArray, List.map_cons, List.map_nil]); first | done | rfl | (simp only [List.length_drop, List.length_take]; rfl)) ?_; (with_reducible refine (jobshellref46_snap.calls a0_0 a0_1 3 true _ A4.out).mono ?_); rintro e w24 ⟨rfl, hb⟩; refine ⟨_, rfl, ?_⟩; have n0_ := Aside0.mk (blk_below (g := gb340) (o := .cells #[.string a0_0, .int .i64 a0_1, .int .i64 a0_2, .slice A0_3 l0_3.length c0_3, .slice A0_4 l0_4.length c0_4, .slice A0_5 l0_5.length c0_5, .string a0_6, .int .i64 a0_7, .int .i64 a0_8, .string a0_9] 27 (0, 0)) (by (with_reducible repeat (first | refine blk_drewN ?_ _ | refine blk_drew ?_ | refine blk_alloc ?_ _)); exact BK340.out) hb); have n1_ := Aside0.mk (below_step (by repeat (first | (with_reducible first | exact HB.out | apply below_alloc | apply pw_below_drewN | apply below_drew1 | refine below_set ?_ GE340.out) | exact HB.out)) hb); clear BK340; clear HB; have BK340 := n0_; have HB := n1_; clear n0_ n1_; (try clear hb); (try clear hb2); (try clear hk); (try clear hi); have hcz25_0 : w24.cell? ⟨gb340, 0, none⟩ = some (.string a0_0) := (blk_cell BK340.out 0).trans rfl; have hcz25_1 : w24.cell? ⟨gb340, 1, none⟩ = some (.int .i64 a0_1) := (blk_cell BK340.out 1).trans rfl; have hcz25_2 : w24.cell? ⟨gb340, 2, none⟩ = some (.int .i64 a0_2) := (blk_cell BK340.out 2).trans rfl; have hcz25_3 : w24.cell? ⟨gb340, 3, none⟩ = some (.slice A0_3 l0_3.length c0_3) := (blk_cell BK340.out 3).trans rfl; have hcz25_4 : w24.cell? ⟨gb340, 4, none⟩ = some (.slice A0_4 l0_4.length c0_4) := (blk_cell BK340.out 4).trans rfl; have hcz25_5 : w24.cell? ⟨gb340, 5, none⟩ = some (.slice A0_5 l0_5.length c0_5) := (blk_cell BK340.out 5).trans rfl; have hcz25_6 : w24.cell? ⟨gb340, 6, none⟩ = some (.string a0_6) := (blk_cell BK340.out 6).trans rfl; have hcz25_7 : w24.cell? ⟨gb340, 7, none⟩ = some (.int .i64 a0_7) := (blk_cell BK340.out 7).trans rfl; have hcz25_8 : w24.cell? ⟨gb340, 8, none⟩ = some (.int .i64 a0_8) := (blk_cell BK340.out 8).trans rfl; have hcz25_9 : w24.cell? ⟨gb340, 9, none⟩ = some (.string a0_9) := (blk_cell BK340.out 9).trans rfl; have hfz25_0 := blk_frozen BK340.out 0; have hfz25_1 := blk_frozen BK340.out 1; have hfz25_2 := blk_frozen BK340.out 2; have hfz25_3 := blk_frozen BK340.out 3; have hfz25_4 := blk_frozen BK340.out 4; have hfz25_5 := blk_frozen BK340.out 5; have hfz25_6 := blk_frozen BK340.out 6; have hfz25_7 := blk_frozen BK340.out 7; have hfz25_8 := blk_frozen BK340.out 8; have hfz25_9 := blk_frozen BK340.out 9) | (go_at_call 24; (with_reducible refine (jobshellref46_short.calls k _ _ l0_3 true _ ?side1 ?side2 A6.out).mono ?_); (case side1 => repeat (first | exact (Kd.C_below HR0_3.out HB.out) | (with_reducible refine Kd.C_alloc ?_ _) | (with_reducible refine Kd.C_drewN ?_ _) | (with_reducible refine Kd.C_drew ?_))); (case side2 => exact HC0_3.out); rintro e w' ⟨rfl, ⟨nd, rfl⟩⟩) | (go_at_call 25; (with_reducible refine (jobshellref46_snaps.calls k _ _ l0_4 3 true _ ?side1 ?side2 A12.out).mono ?_); (case side1 => repeat (first | exact (Kd.C_below HR0_4.out (by repeat (first | (with_reducible first | exact HB.out | apply below_alloc | apply pw_below_drewN | apply below_drew1 | refine below_set ?_ GE340.out) | exact HB.out))) | (with_reducible refine Kd.C_alloc ?_ _) | (with_reducible refine Kd.C_drewN ?_ _) | (with_reducible refine Kd.C_drew ?_))); (case side2 => exact HC0_4.out); rintro e w26 ⟨rfl, hb⟩; have n0_ := Aside0.mk (blk_below (g := gb340) (o := .cells #[.string a0_0, .int .i64 a0_1, .int .i64 a0_2, .slice A0_3 l0_3.length c0_3, .slice A0_4 l0_4.length c0_4, .slice A0_5 l0_5.length c0_5, .string a0_6, .int .i64 a0_7, .int .i64 a0_8, .string a0_9] 27 (0, 0)) (by (with_reducible repeat (first | refine blk_drewN ?_ _ | refine blk_drew ?_ | refine blk_alloc ?_ _)); exact BK340.out) hb); have n1_ := Aside0.mk (below_step (by repeat (first | (with_reducible first | exact HB.out | apply below_alloc | apply pw_below_drewN | apply below_drew1 | refine below_set ?_ GE340.out) | exact HB.out)) hb); clear BK340; clear HB; have BK340 := n0_; have HB := n1_; clear n0_ n1_; (try clear hb); (try clear hb2); (try clear hk); (try clear hi); have hcz27_0 : w26.cell? ⟨gb340, 0, none⟩ = some (.string a0_0) := (blk_cell BK340.out 0).trans rfl; have hcz27_1 : w26.cell? ⟨gb340, 1, none⟩ = some (.int .i64 a0_1) := (blk_cell BK340.out 1).trans rfl; have hcz27_2 : w26.cell? ⟨gb340, 2, none⟩ = some (.int .i64 a0_2) := (blk_cell BK340.out 2).trans rfl; have hcz27_3 : w26.cell? ⟨gb340, 3, none⟩ = some (.slice A0_3 l0_3.length c0_3) := (blk_cell BK340.out 3).trans rfl; have hcz27_4 : w26.cell? ⟨gb340, 4, none⟩ = some (.slice A0_4 l0_4.length c0_4) := (blk_cell BK340.out 4).trans rfl; have hcz27_5 : w26.cell? ⟨gb340, 5, none⟩ = some (.slice A0_5 l0_5.length c0_5) := (blk_cell BK340.out 5).trans rfl; have hcz27_6 : w26.cell? ⟨gb340, 6, none⟩ = some (.string a0_6) := (blk_cell BK340.out 6).trans rfl; have hcz27_7 : w26.cell? ⟨gb340, 7, none⟩ = some (.int .i64 a0_7) := (blk_cell BK340.out 7).trans rfl; have hcz27_8 : w26.cell? ⟨gb340, 8, none⟩ = some (.int .i64 a0_8) := (blk_cell BK340.out 8).trans rfl; have hcz27_9 : w26.cell? ⟨gb340, 9, none⟩ = some (.string a0_9) := (blk_cell BK340.out 9).trans rfl; have hfz27_0 := blk_frozen BK340.out 0; have hfz27_1 := blk_frozen BK340.out 1; have hfz27_2 := blk_frozen BK340.out 2; have hfz27_3 := blk_frozen BK340.out 3; have hfz27_4 := blk_frozen BK340.out 4; have hfz27_5 := blk_frozen BK340.out 5; have hfz27_6 := blk_frozen BK340.out 6; have hfz27_7 := blk_frozen BK340.out 7; have hfz27_8 := blk_frozen BK340.out 8; have hfz27_9 := blk_frozen BK340.out 9) | (go_at_call 25; (with_reducible refine (jobshellref46_snaps.calls k _ _ l0_5 3 false _ ?side1 ?side2 A14.out).mono ?_); (case side1 => repeat (first | exact (Kd.C_below HR0_5.out HB.out) | (with_reducible refine Kd.C_alloc ?_ _) | (with_reducible refine Kd.C_drewN ?_ _) | (with_reducible refine Kd.C_drew ?_))); (case side2 => exact HC0_5.out); rintro e w28 ⟨rfl, hb⟩; have n0_ := Aside0.mk (blk_below (g := gb340) (o := .cells #[.string a0_0, .int .i64 a0_1, .int .i64 a0_2, .slice A0_3 l0_3.length c0_3, .slice A0_4 l0_4.length c0_4, .slice A0_5 l0_5.length c0_5, .string a0_6, .int .i64 a0_7, .int .i64 a0_8, .string a0_9] 27 (0, 0)) (by (with_reducible repeat (first | refine blk_drewN ?_ _ | refine blk_drew ?_ | refine blk_alloc ?_ _)); exact BK340.out) hb); have n1_ := Aside0.mk (below_step (by repeat (first | (with_reducible first | exact HB.out | apply below_alloc | apply pw_below_drewN | apply below_drew1 | refine below_set ?_ GE340.out) | exact HB.out)) hb); clear BK340; clear HB; have BK340 := n0_; have HB := n1_; clear n0_ n1_; (try clear hb); (try clear hb2); (try clear hk); (try clear hi)))
              go_meet
              case rel => exact ⟨_, (true), (by first | rfl | (simp; done) | (simp [*]; done)), H', ⟨by first | omega | exact Nat.le_refl _⟩, ⟨by (with_reducible repeat (first | refine blk_drewN ?_ _ | refine blk_drew ?_ | refine blk_alloc ?_ _)); exact BK340.out⟩, ⟨by repeat (first | (with_reducible first | exact HB.out | apply below_alloc | apply pw_below_drewN | apply below_drew1 | refine below_set ?_ GE340.out) | exact HB.out)⟩⟩
          · replace c13 := Bool.eq_false_iff.mpr c13
            subst c13
            have H1 : (jobshellref46_Valid.j0 k true a0_0 a0_1 a0_2 l0_3 l0_4 l0_5 a0_6 a0_7 a0_8 a0_9) = some r := by rw [if_neg (show ¬ (false = true) by decide)] at H; exact H
            clear H
            have H := H1
            clear H1
            have H' := Aside0.mk H
            clear H
            have hcz29_0 : w3.cell? ⟨gb340, 0, none⟩ = some (.string a0_0) := (blk_cell BK340.out 0).trans rfl
            have hcz29_1 : w3.cell? ⟨gb340, 1, none⟩ = some (.int .i64 a0_1) := (blk_cell BK340.out 1).trans rfl
            have hcz29_2 : w3.cell? ⟨gb340, 2, none⟩ = some (.int .i64 a0_2) := (blk_cell BK340.out 2).trans rfl
            have hcz29_3 : w3.cell? ⟨gb340, 3, none⟩ = some (.slice A0_3 l0_3.length c0_3) := (blk_cell BK340.out 3).trans rfl
            have hcz29_4 : w3.cell? ⟨gb340, 4, none⟩ = some (.slice A0_4 l0_4.length c0_4) := (blk_cell BK340.out 4).trans rfl
            have hcz29_5 : w3.cell? ⟨gb340, 5, none⟩ = some (.slice A0_5 l0_5.length c0_5) := (blk_cell BK340.out 5).trans rfl
            have hcz29_6 : w3.cell? ⟨gb340, 6, none⟩ = some (.string a0_6) := (blk_cell BK340.out 6).trans rfl
            have hcz29_7 : w3.cell? ⟨gb340, 7, none⟩ = some (.int .i64 a0_7) := (blk_cell BK340.out 7).trans rfl
            have hcz29_8 : w3.cell? ⟨gb340, 8, none⟩ = some (.int .i64 a0_8) := (blk_cell BK340.out 8).trans rfl
            have hcz29_9 : w3.cell? ⟨gb340, 9, none⟩ = some (.string a0_9) := (blk_cell BK340.out 9).trans rfl
            have hfz29_0 := blk_frozen BK340.out 0
            have hfz29_1 := blk_frozen BK340.out 1
            have hfz29_2 := blk_frozen BK340.out 2
            have hfz29_3 := blk_frozen BK340.out 3
            have hfz29_4 := blk_frozen BK340.out 4
            have hfz29_5 := blk_frozen BK340.out 5
            have hfz29_6 := blk_frozen BK340.out 6
            have hfz29_7 := blk_frozen BK340.out 7
            have hfz29_8 := blk_frozen BK340.out 8
            have hfz29_9 := blk_frozen BK340.out 9
            go_wp2_with (first | ((with_reducible refine gate_callee (f := 23) rfl ?_); refine goesL_ (some 5) rfl rfl Try.func23 (by kernel_rfl) rfl #[.agg #[.string a0_0, .int .i64 a0_1], .int .i64 3] rfl (by (try simp only [List.map_toArray, List.map_cons, List.map_nil]); first | done | rfl | (simp only [List.length_drop, List.length_take]; rfl)) ?_; (with_reducible refine (jobshellref46_snap.calls a0_0 a0_1 3 true _ A4.out).mono ?_); rintro e w30 ⟨rfl, hb⟩; refine ⟨_, rfl, ?_⟩; have n0_ := Aside0.mk (blk_below (g := gb340) (o := .cells #[.string a0_0, .int .i64 a0_1, .int .i64 a0_2, .slice A0_3 l0_3.length c0_3, .slice A0_4 l0_4.length c0_4, .slice A0_5 l0_5.length c0_5, .string a0_6, .int .i64 a0_7, .int .i64 a0_8, .string a0_9] 27 (0, 0)) (by (with_reducible repeat (first | refine blk_drewN ?_ _ | refine blk_drew ?_ | refine blk_alloc ?_ _)); exact BK340.out) hb); have n1_ := Aside0.mk (below_step (by repeat (first | (with_reducible first | exact HB.out | apply below_alloc | apply pw_below_drewN | apply below_drew1 | refine below_set ?_ GE340.out) | exact HB.out)) hb); clear BK340; clear HB; have BK340 := n0_; have HB := n1_; clear n0_ n1_; (try clear hb); (try clear hb2); (try clear hk); (try clear hi); have hcz31_0 : w30.cell? ⟨gb340, 0, none⟩ = some (.string a0_0) := (blk_cell BK340.out 0).trans rfl; have hcz31_1 : w30.cell? ⟨gb340, 1, none⟩ = some (.int .i64 a0_1) := (blk_cell BK340.out 1).trans rfl; have hcz31_2 : w30.cell? ⟨gb340, 2, none⟩ = some (.int .i64 a0_2) := (blk_cell BK340.out 2).trans rfl; have hcz31_3 : w30.cell? ⟨gb340, 3, none⟩ = some (.slice A0_3 l0_3.length c0_3) := (blk_cell BK340.out 3).trans rfl; have hcz31_4 : w30.cell? ⟨gb340, 4, none⟩ = some (.slice A0_4 l0_4.length c0_4) := (blk_cell BK340.out 4).trans rfl; have hcz31_5 : w30.cell? ⟨gb340, 5, none⟩ = some (.slice A0_5 l0_5.length c0_5) := (blk_cell BK340.out 5).trans rfl; have hcz31_6 : w30.cell? ⟨gb340, 6, none⟩ = some (.string a0_6) := (blk_cell BK340.out 6).trans rfl; have hcz31_7 : w30.cell? ⟨gb340, 7, none⟩ = some (.int .i64 a0_7) := (blk_cell BK340.out 7).trans rfl; have hcz31_8 : w30.cell? ⟨gb340, 8, none⟩ = some (.int .i64 a0_8) := (blk_cell BK340.out 8).trans rfl; have hcz31_9 : w30.cell? ⟨gb340, 9, none⟩ = some (.string a0_9) := (blk_cell BK340.out 9).trans rfl; have hfz31_0 := blk_frozen BK340.out 0; have hfz31_1 := blk_frozen BK340.out 1; have hfz31_2 := blk_frozen BK340.out 2; have hfz31_3 := blk_frozen BK340.out 3; have hfz31_4 := blk_frozen BK340.out 4; have hfz31_5 := blk_frozen BK340.out 5; have hfz31_6 := blk_frozen BK340.out 6; have hfz31_7 := blk_frozen BK340.out 7; have hfz31_8 := blk_frozen BK340.out 8; have hfz31_9 := blk_frozen BK340.out 9) | (go_at_call 24; (with_reducible refine (jobshellref46_short.calls k _ _ l0_3 true _ ?side1 ?side2 A6.out).mono ?_); (case side1 => repeat (first | exact (Kd.C_below HR0_3.out HB.out) | (with_reducible refine Kd.C_alloc ?_ _) | (with_reducible refine Kd.C_drewN ?_ _) | (with_reducible refine Kd.C_drew ?_))); (case side2 => exact HC0_3.out); rintro e w' ⟨rfl, ⟨nd, rfl⟩⟩) | (go_at_call 25; (with_reducible refine (jobshellref46_snaps.calls k _ _ l0_4 3 false _ ?side1 ?side2 A12.out).mono ?_); (case side1 => repeat (first | exact (Kd.C_below HR0_4.out (by repeat (first | (with_reducible first | exact HB.out | apply below_alloc | apply pw_below_drewN | apply below_drew1 | refine below_set ?_ GE340.out) | exact HB.out))) | (with_reducible refine Kd.C_alloc ?_ _) | (with_reducible refine Kd.C_drewN ?_ _) | (with_reducible refine Kd.C_drew ?_))); (case side2 => exact HC0_4.out); rintro e w32 ⟨rfl, hb⟩; have n0_ := Aside0.mk (blk_below (g := gb340) (o := .cells #[.string a0_0, .int .i64 a0_1, .int .i64 a0_2, .slice A0_3 l0_3.length c0_3, .slice A0_4 l0_4.length c0_4, .slice A0_5 l0_5.length c0_5, .string a0_6, .int .i64 a0_7, .int .i64 a0_8, .string a0_9] 27 (0, 0)) (by (with_reducible repeat (first | refine blk_drewN ?_ _ | refine blk_drew ?_ | refine blk_alloc ?_ _)); exact BK340.out) hb); have n1_ := Aside0.mk (below_step (by repeat (first | (with_reducible first | exact HB.out | apply below_alloc | apply pw_below_drewN | apply below_drew1 | refine below_set ?_ GE340.out) | exact HB.out)) hb); clear BK340; clear HB; have BK340 := n0_; have HB := n1_; clear n0_ n1_; (try clear hb); (try clear hb2); (try clear hk); (try clear hi)))
            go_meet
            case rel => exact ⟨_, (true), (by first | rfl | (simp; done) | (simp [*]; done)), H', ⟨by first | omega | exact Nat.le_refl _⟩, ⟨by (with_reducible repeat (first | refine blk_drewN ?_ _ | refine blk_drew ?_ | refine blk_alloc ?_ _)); exact BK340.out⟩, ⟨by repeat (first | (with_reducible first | exact HB.out | apply below_alloc | apply pw_below_drewN | apply below_drew1 | refine below_set ?_ GE340.out) | exact HB.out)⟩⟩
      · replace c7 := Bool.eq_false_iff.mpr c7
        subst c7
        have H1 : (jobshellref46_Valid.j0 k true a0_0 a0_1 a0_2 l0_3 l0_4 l0_5 a0_6 a0_7 a0_8 a0_9) = some r := by rw [if_neg (show ¬ (false = true) by decide)] at H; exact H
        clear H
        have H := H1
        clear H1
        have H' := Aside0.mk H
        clear H
        have hcz33_0 : w3.cell? ⟨gb340, 0, none⟩ = some (.string a0_0) := (blk_cell BK340.out 0).trans rfl
        have hcz33_1 : w3.cell? ⟨gb340, 1, none⟩ = some (.int .i64 a0_1) := (blk_cell BK340.out 1).trans rfl
        have hcz33_2 : w3.cell? ⟨gb340, 2, none⟩ = some (.int .i64 a0_2) := (blk_cell BK340.out 2).trans rfl
        have hcz33_3 : w3.cell? ⟨gb340, 3, none⟩ = some (.slice A0_3 l0_3.length c0_3) := (blk_cell BK340.out 3).trans rfl
        have hcz33_4 : w3.cell? ⟨gb340, 4, none⟩ = some (.slice A0_4 l0_4.length c0_4) := (blk_cell BK340.out 4).trans rfl
        have hcz33_5 : w3.cell? ⟨gb340, 5, none⟩ = some (.slice A0_5 l0_5.length c0_5) := (blk_cell BK340.out 5).trans rfl
        have hcz33_6 : w3.cell? ⟨gb340, 6, none⟩ = some (.string a0_6) := (blk_cell BK340.out 6).trans rfl
        have hcz33_7 : w3.cell? ⟨gb340, 7, none⟩ = some (.int .i64 a0_7) := (blk_cell BK340.out 7).trans rfl
        have hcz33_8 : w3.cell? ⟨gb340, 8, none⟩ = some (.int .i64 a0_8) := (blk_cell BK340.out 8).trans rfl
        have hcz33_9 : w3.cell? ⟨gb340, 9, none⟩ = some (.string a0_9) := (blk_cell BK340.out 9).trans rfl
        have hfz33_0 := blk_frozen BK340.out 0
        have hfz33_1 := blk_frozen BK340.out 1
        have hfz33_2 := blk_frozen BK340.out 2
        have hfz33_3 := blk_frozen BK340.out 3
        have hfz33_4 := blk_frozen BK340.out 4
        have hfz33_5 := blk_frozen BK340.out 5
        have hfz33_6 := blk_frozen BK340.out 6
        have hfz33_7 := blk_frozen BK340.out 7
        have hfz33_8 := blk_frozen BK340.out 8
        have hfz33_9 := blk_frozen BK340.out 9
        go_wp2_with (first | ((with_reducible refine gate_callee (f := 23) rfl ?_); refine goesL_ (some 5) rfl rfl Try.func23 (by kernel_rfl) rfl #[.agg #[.string a0_0, .int .i64 a0_1], .int .i64 3] rfl (by (try simp only [List.map_toArray, List.map_cons, List.map_nil]); first | done | rfl | (simp only [List.length_drop, List.length_take]; rfl)) ?_; (with_reducible refine (jobshellref46_snap.calls a0_0 a0_1 3 true _ A4.out).mono ?_); rintro e w34 ⟨rfl, hb⟩; refine ⟨_, rfl, ?_⟩; have n0_ := Aside0.mk (blk_below (g := gb340) (o := .cells #[.string a0_0, .int .i64 a0_1, .int .i64 a0_2, .slice A0_3 l0_3.length c0_3, .slice A0_4 l0_4.length c0_4, .slice A0_5 l0_5.length c0_5, .string a0_6, .int .i64 a0_7, .int .i64 a0_8, .string a0_9] 27 (0, 0)) (by (with_reducible repeat (first | refine blk_drewN ?_ _ | refine blk_drew ?_ | refine blk_alloc ?_ _)); exact BK340.out) hb); have n1_ := Aside0.mk (below_step (by repeat (first | (with_reducible first | exact HB.out | apply below_alloc | apply pw_below_drewN | apply below_drew1 | refine below_set ?_ GE340.out) | exact HB.out)) hb); clear BK340; clear HB; have BK340 := n0_; have HB := n1_; clear n0_ n1_; (try clear hb); (try clear hb2); (try clear hk); (try clear hi); have hcz35_0 : w34.cell? ⟨gb340, 0, none⟩ = some (.string a0_0) := (blk_cell BK340.out 0).trans rfl; have hcz35_1 : w34.cell? ⟨gb340, 1, none⟩ = some (.int .i64 a0_1) := (blk_cell BK340.out 1).trans rfl; have hcz35_2 : w34.cell? ⟨gb340, 2, none⟩ = some (.int .i64 a0_2) := (blk_cell BK340.out 2).trans rfl; have hcz35_3 : w34.cell? ⟨gb340, 3, none⟩ = some (.slice A0_3 l0_3.length c0_3) := (blk_cell BK340.out 3).trans rfl; have hcz35_4 : w34.cell? ⟨gb340, 4, none⟩ = some (.slice A0_4 l0_4.length c0_4) := (blk_cell BK340.out 4).trans rfl; have hcz35_5 : w34.cell? ⟨gb340, 5, none⟩ = some (.slice A0_5 l0_5.length c0_5) := (blk_cell BK340.out 5).trans rfl; have hcz35_6 : w34.cell? ⟨gb340, 6, none⟩ = some (.string a0_6) := (blk_cell BK340.out 6).trans rfl; have hcz35_7 : w34.cell? ⟨gb340, 7, none⟩ = some (.int .i64 a0_7) := (blk_cell BK340.out 7).trans rfl; have hcz35_8 : w34.cell? ⟨gb340, 8, none⟩ = some (.int .i64 a0_8) := (blk_cell BK340.out 8).trans rfl; have hcz35_9 : w34.cell? ⟨gb340, 9, none⟩ = some (.string a0_9) := (blk_cell BK340.out 9).trans rfl; have hfz35_0 := blk_frozen BK340.out 0; have hfz35_1 := blk_frozen BK340.out 1; have hfz35_2 := blk_frozen BK340.out 2; have hfz35_3 := blk_frozen BK340.out 3; have hfz35_4 := blk_frozen BK340.out 4; have hfz35_5 := blk_frozen BK340.out 5; have hfz35_6 := blk_frozen BK340.out 6; have hfz35_7 := blk_frozen BK340.out 7; have hfz35_8 := blk_frozen BK340.out 8; have hfz35_9 := blk_frozen BK340.out 9) | (go_at_call 24; (with_reducible refine (jobshellref46_short.calls k _ _ l0_3 false _ ?side1 ?side2 A6.out).mono ?_); (case side1 => repeat (first | exact (Kd.C_below HR0_3.out HB.out) | (with_reducible refine Kd.C_alloc ?_ _) | (with_reducible refine Kd.C_drewN ?_ _) | (with_reducible refine Kd.C_drew ?_))); (case side2 => exact HC0_3.out); rintro e w' ⟨rfl, ⟨nd, rfl⟩⟩))
        go_meet
        case rel => exact ⟨_, (true), (by first | rfl | (simp; done) | (simp [*]; done)), H', ⟨by first | omega | exact Nat.le_refl _⟩, ⟨by (with_reducible repeat (first | refine blk_drewN ?_ _ | refine blk_drew ?_ | refine blk_alloc ?_ _)); exact BK340.out⟩, ⟨by repeat (first | (with_reducible first | exact HB.out | apply below_alloc | apply pw_below_drewN | apply below_drew1 | refine below_set ?_ GE340.out) | exact HB.out)⟩⟩
    · replace c5 := Bool.eq_false_iff.mpr c5
      subst c5
      have H1 : (jobshellref46_Valid.j0 k true a0_0 a0_1 a0_2 l0_3 l0_4 l0_5 a0_6 a0_7 a0_8 a0_9) = some r := by rw [if_neg (show ¬ (false = true) by decide)] at H; exact H
      clear H
      have H := H1
      clear H1
      have H' := Aside0.mk H
      clear H
      have hcz36_0 : w3.cell? ⟨gb340, 0, none⟩ = some (.string a0_0) := (blk_cell BK340.out 0).trans rfl
      have hcz36_1 : w3.cell? ⟨gb340, 1, none⟩ = some (.int .i64 a0_1) := (blk_cell BK340.out 1).trans rfl
      have hcz36_2 : w3.cell? ⟨gb340, 2, none⟩ = some (.int .i64 a0_2) := (blk_cell BK340.out 2).trans rfl
      have hcz36_3 : w3.cell? ⟨gb340, 3, none⟩ = some (.slice A0_3 l0_3.length c0_3) := (blk_cell BK340.out 3).trans rfl
      have hcz36_4 : w3.cell? ⟨gb340, 4, none⟩ = some (.slice A0_4 l0_4.length c0_4) := (blk_cell BK340.out 4).trans rfl
      have hcz36_5 : w3.cell? ⟨gb340, 5, none⟩ = some (.slice A0_5 l0_5.length c0_5) := (blk_cell BK340.out 5).trans rfl
      have hcz36_6 : w3.cell? ⟨gb340, 6, none⟩ = some (.string a0_6) := (blk_cell BK340.out 6).trans rfl
      have hcz36_7 : w3.cell? ⟨gb340, 7, none⟩ = some (.int .i64 a0_7) := (blk_cell BK340.out 7).trans rfl
      have hcz36_8 : w3.cell? ⟨gb340, 8, none⟩ = some (.int .i64 a0_8) := (blk_cell BK340.out 8).trans rfl
      have hcz36_9 : w3.cell? ⟨gb340, 9, none⟩ = some (.string a0_9) := (blk_cell BK340.out 9).trans rfl
      have hfz36_0 := blk_frozen BK340.out 0
      have hfz36_1 := blk_frozen BK340.out 1
      have hfz36_2 := blk_frozen BK340.out 2
      have hfz36_3 := blk_frozen BK340.out 3
      have hfz36_4 := blk_frozen BK340.out 4
      have hfz36_5 := blk_frozen BK340.out 5
      have hfz36_6 := blk_frozen BK340.out 6
      have hfz36_7 := blk_frozen BK340.out 7
      have hfz36_8 := blk_frozen BK340.out 8
      have hfz36_9 := blk_frozen BK340.out 9
      go_wp2_with (first | ((with_reducible refine gate_callee (f := 23) rfl ?_); refine goesL_ (some 5) rfl rfl Try.func23 (by kernel_rfl) rfl #[.agg #[.string a0_0, .int .i64 a0_1], .int .i64 3] rfl (by (try simp only [List.map_toArray, List.map_cons, List.map_nil]); first | done | rfl | (simp only [List.length_drop, List.length_take]; rfl)) ?_; (with_reducible refine (jobshellref46_snap.calls a0_0 a0_1 3 false _ A4.out).mono ?_); rintro e w37 ⟨rfl, hb⟩; refine ⟨_, rfl, ?_⟩; have n0_ := Aside0.mk (blk_below (g := gb340) (o := .cells #[.string a0_0, .int .i64 a0_1, .int .i64 a0_2, .slice A0_3 l0_3.length c0_3, .slice A0_4 l0_4.length c0_4, .slice A0_5 l0_5.length c0_5, .string a0_6, .int .i64 a0_7, .int .i64 a0_8, .string a0_9] 27 (0, 0)) (by (with_reducible repeat (first | refine blk_drewN ?_ _ | refine blk_drew ?_ | refine blk_alloc ?_ _)); exact BK340.out) hb); have n1_ := Aside0.mk (below_step (by repeat (first | (with_reducible first | exact HB.out | apply below_alloc | apply pw_below_drewN | apply below_drew1 | refine below_set ?_ GE340.out) | exact HB.out)) hb); clear BK340; clear HB; have BK340 := n0_; have HB := n1_; clear n0_ n1_; (try clear hb); (try clear hb2); (try clear hk); (try clear hi)))
      go_meet
      case rel => exact ⟨_, (true), (by first | rfl | (simp; done) | (simp [*]; done)), H', ⟨by first | omega | exact Nat.le_refl _⟩, ⟨by (with_reducible repeat (first | refine blk_drewN ?_ _ | refine blk_drew ?_ | refine blk_alloc ?_ _)); exact BK340.out⟩, ⟨by repeat (first | (with_reducible first | exact HB.out | apply below_alloc | apply pw_below_drewN | apply below_drew1 | refine below_set ?_ GE340.out) | exact HB.out)⟩⟩
  case rest =>
    clear HC2
    try clear c1
    try clear c2
    try clear p2
    try clear c5
    try clear c7
    try clear c8
    try clear c8b0
    try clear c8b1
    try clear c12
    try clear c13
    try clear c15
    try clear c23
    try clear hcz11_0
    try clear hcz11_1
    try clear hcz11_2
    try clear hcz11_3
    try clear hcz11_4
    try clear hcz11_5
    try clear hcz11_6
    try clear hcz11_7
    try clear hcz11_8
    try clear hcz11_9
    try clear hcz16_0
    try clear hcz16_1
    try clear hcz16_2
    try clear hcz16_3
    try clear hcz16_4
    try clear hcz16_5
    try clear hcz16_6
    try clear hcz16_7
    try clear hcz16_8
    try clear hcz16_9
    try clear hcz18_0
    try clear hcz18_1
    try clear hcz18_2
    try clear hcz18_3
    try clear hcz18_4
    try clear hcz18_5
    try clear hcz18_6
    try clear hcz18_7
    try clear hcz18_8
    try clear hcz18_9
    try clear hcz20_0
    try clear hcz20_1
    try clear hcz20_2
    try clear hcz20_3
    try clear hcz20_4
    try clear hcz20_5
    try clear hcz20_6
    try clear hcz20_7
    try clear hcz20_8
    try clear hcz20_9
    try clear hcz22_0
    try clear hcz22_1
    try clear hcz22_2
    try clear hcz22_3
    try clear hcz22_4
    try clear hcz22_5
    try clear hcz22_6
    try clear hcz22_7
    try clear hcz22_8
    try clear hcz22_9
    try clear hcz23_0
    try clear hcz23_1
    try clear hcz23_2
    try clear hcz23_3
    try clear hcz23_4
    try clear hcz23_5
    try clear hcz23_6
    try clear hcz23_7
    try clear hcz23_8
    try clear hcz23_9
    try clear hcz25_0
    try clear hcz25_1
    try clear hcz25_2
    try clear hcz25_3
    try clear hcz25_4
    try clear hcz25_5
    try clear hcz25_6
    try clear hcz25_7
    try clear hcz25_8
    try clear hcz25_9
    try clear hcz27_0
    try clear hcz27_1
    try clear hcz27_2
    try clear hcz27_3
    try clear hcz27_4
    try clear hcz27_5
    try clear hcz27_6
    try clear hcz27_7
    try clear hcz27_8
    try clear hcz27_9
    try clear hcz29_0
    try clear hcz29_1
    try clear hcz29_2
    try clear hcz29_3
    try clear hcz29_4
    try clear hcz29_5
    try clear hcz29_6
    try clear hcz29_7
    try clear hcz29_8
    try clear hcz29_9
    try clear hcz31_0
    try clear hcz31_1
    try clear hcz31_2
    try clear hcz31_3
    try clear hcz31_4
    try clear hcz31_5
    try clear hcz31_6
    try clear hcz31_7
    try clear hcz31_8
    try clear hcz31_9
    try clear hcz33_0
    try clear hcz33_1
    try clear hcz33_2
    try clear hcz33_3
    try clear hcz33_4
    try clear hcz33_5
    try clear hcz33_6
    try clear hcz33_7
    try clear hcz33_8
    try clear hcz33_9
    try clear hcz35_0
    try clear hcz35_1
    try clear hcz35_2
    try clear hcz35_3
    try clear hcz35_4
    try clear hcz35_5
    try clear hcz35_6
    try clear hcz35_7
    try clear hcz35_8
    try clear hcz35_9
    try clear hcz36_0
    try clear hcz36_1
    try clear hcz36_2
    try clear hcz36_3
    try clear hcz36_4
    try clear hcz36_5
    try clear hcz36_6
    try clear hcz36_7
    try clear hcz36_8
    try clear hcz36_9
    try clear hcz9_0
    try clear hcz9_1
    try clear hcz9_2
    try clear hcz9_3
    try clear hcz9_4
    try clear hcz9_5
    try clear hcz9_6
    try clear hcz9_7
    try clear hcz9_8
    try clear hcz9_9
    try clear hfz11_0
    try clear hfz11_1
    try clear hfz11_2
    try clear hfz11_3
    try clear hfz11_4
    try clear hfz11_5
    try clear hfz11_6
    try clear hfz11_7
    try clear hfz11_8
    try clear hfz11_9
    try clear hfz16_0
    try clear hfz16_1
    try clear hfz16_2
    try clear hfz16_3
    try clear hfz16_4
    try clear hfz16_5
    try clear hfz16_6
    try clear hfz16_7
    try clear hfz16_8
    try clear hfz16_9
    try clear hfz18_0
    try clear hfz18_1
    try clear hfz18_2
    try clear hfz18_3
    try clear hfz18_4
    try clear hfz18_5
    try clear hfz18_6
    try clear hfz18_7
    try clear hfz18_8
    try clear hfz18_9
    try clear hfz20_0
    try clear hfz20_1
    try clear hfz20_2
    try clear hfz20_3
    try clear hfz20_4
    try clear hfz20_5
    try clear hfz20_6
    try clear hfz20_7
    try clear hfz20_8
    try clear hfz20_9
    try clear hfz22_0
    try clear hfz22_1
    try clear hfz22_2
    try clear hfz22_3
    try clear hfz22_4
    try clear hfz22_5
    try clear hfz22_6
    try clear hfz22_7
    try clear hfz22_8
    try clear hfz22_9
    try clear hfz23_0
    try clear hfz23_1
    try clear hfz23_2
    try clear hfz23_3
    try clear hfz23_4
    try clear hfz23_5
    try clear hfz23_6
    try clear hfz23_7
    try clear hfz23_8
    try clear hfz23_9
    try clear hfz25_0
    try clear hfz25_1
    try clear hfz25_2
    try clear hfz25_3
    try clear hfz25_4
    try clear hfz25_5
    try clear hfz25_6
    try clear hfz25_7
    try clear hfz25_8
    try clear hfz25_9
    try clear hfz27_0
    try clear hfz27_1
    try clear hfz27_2
    try clear hfz27_3
    try clear hfz27_4
    try clear hfz27_5
    try clear hfz27_6
    try clear hfz27_7
    try clear hfz27_8
    try clear hfz27_9
    try clear hfz29_0
    try clear hfz29_1
    try clear hfz29_2
    try clear hfz29_3
    try clear hfz29_4
    try clear hfz29_5
    try clear hfz29_6
    try clear hfz29_7
    try clear hfz29_8
    try clear hfz29_9
    try clear hfz31_0
    try clear hfz31_1
    try clear hfz31_2
    try clear hfz31_3
    try clear hfz31_4
    try clear hfz31_5
    try clear hfz31_6
    try clear hfz31_7
    try clear hfz31_8
    try clear hfz31_9
    try clear hfz33_0
    try clear hfz33_1
    try clear hfz33_2
    try clear hfz33_3
    try clear hfz33_4
    try clear hfz33_5
    try clear hfz33_6
    try clear hfz33_7
    try clear hfz33_8
    try clear hfz33_9
    try clear hfz35_0
    try clear hfz35_1
    try clear hfz35_2
    try clear hfz35_3
    try clear hfz35_4
    try clear hfz35_5
    try clear hfz35_6
    try clear hfz35_7
    try clear hfz35_8
    try clear hfz35_9
    try clear hfz36_0
    try clear hfz36_1
    try clear hfz36_2
    try clear hfz36_3
    try clear hfz36_4
    try clear hfz36_5
    try clear hfz36_6
    try clear hfz36_7
    try clear hfz36_8
    try clear hfz36_9
    try clear hfz9_0
    try clear hfz9_1
    try clear hfz9_2
    try clear hfz9_3
    try clear hfz9_4
    try clear hfz9_5
    try clear hfz9_6
    try clear hfz9_7
    try clear hfz9_8
    try clear hfz9_9
    obtain ⟨kq, x36_1, rfl, HA, HJ1, BK340, HB⟩ := hcut
    cases kq with
    | zero => exact absurd HA.out (by simp [jobshellref46_Valid.j0])
    | succ kj1 =>
      have H := HA.out
      clear HA
      simp only [jobshellref46_Valid.j0] at H
      by_cases c38 : x36_1 = true
      · subst c38
        have H1 : (some 3) = some r := by rw [if_pos rfl] at H; exact H
        clear H
        have H := H1
        clear H1
        obtain rfl := Option.some.inj H
        go_wp2
        go_ret
        exact ⟨by first | rfl | (simp [errW_none, errW_some] <;> rfl) | (simp [*, errW_none, errW_some] <;> rfl), by repeat (first | (with_reducible first | exact HB.out | apply below_alloc | apply pw_below_drewN | apply below_drew1 | refine below_set ?_ GE340.out) | exact HB.out)⟩
      · replace c38 := Bool.eq_false_iff.mpr c38
        subst c38
        have H1 : ((jobshellref46_snap.f a0_0 a0_1 2).bind fun t345 => (if t345 = true then ((jobshellref46_snaps.f kj1 l0_4 2).bind fun t346 => (if t346 = true then ((jobshellref46_snaps.f kj1 l0_5 2).bind fun t347 => (if t347 = true then (if a0_2 < 0 then (jobshellref46_Valid.j1 kj1 true a0_0 a0_1 a0_2 l0_3 l0_4 l0_5 a0_6 a0_7 a0_8 a0_9) else (if a0_2 > (a0_0.size : Int) then (jobshellref46_Valid.j1 kj1 true a0_0 a0_1 a0_2 l0_3 l0_4 l0_5 a0_6 a0_7 a0_8 a0_9) else (if a0_7 < 0 then (jobshellref46_Valid.j1 kj1 true a0_0 a0_1 a0_2 l0_3 l0_4 l0_5 a0_6 a0_7 a0_8 a0_9) else (if a0_7 > 28 then (jobshellref46_Valid.j1 kj1 true a0_0 a0_1 a0_2 l0_3 l0_4 l0_5 a0_6 a0_7 a0_8 a0_9) else (if a0_8 < 0 then (jobshellref46_Valid.j1 kj1 true a0_0 a0_1 a0_2 l0_3 l0_4 l0_5 a0_6 a0_7 a0_8 a0_9) else (jobshellref46_Valid.j1 kj1 (decide (a0_8 > 128)) a0_0 a0_1 a0_2 l0_3 l0_4 l0_5 a0_6 a0_7 a0_8 a0_9)))))) else (jobshellref46_Valid.j1 kj1 true a0_0 a0_1 a0_2 l0_3 l0_4 l0_5 a0_6 a0_7 a0_8 a0_9))) else (jobshellref46_Valid.j1 kj1 true a0_0 a0_1 a0_2 l0_3 l0_4 l0_5 a0_6 a0_7 a0_8 a0_9))) else (jobshellref46_Valid.j1 kj1 true a0_0 a0_1 a0_2 l0_3 l0_4 l0_5 a0_6 a0_7 a0_8 a0_9))) = some r := by rw [if_neg (show ¬ (false = true) by decide)] at H; exact H
        clear H
        have H := H1
        clear H1
        have HC39 := Aside0.mk H
        clear H
        go_upto_region 3 with (fail)
        go_cut [86] (fun v86 wc => ∃ (kq : Nat) (x86_38 : Bool), v86 = .bool x86_38 ∧ Aside0 (jobshellref46_Valid.j1 kq x86_38 a0_0 a0_1 a0_2 l0_3 l0_4 l0_5 a0_6 a0_7 a0_8 a0_9 = some r) ∧ Aside0 (kq ≤ kj1) ∧ Aside0 (wc.heap[gb340]? = some (.cells #[.string a0_0, .int .i64 a0_1, .int .i64 a0_2, (.slice A0_3 l0_3.length c0_3), (.slice A0_4 l0_4.length c0_4), (.slice A0_5 l0_5.length c0_5), .string a0_6, .int .i64 a0_7, .int .i64 a0_8, .string a0_9] 27 (0, 0))) ∧ Aside0 (Below w.heap.size w wc))
        case first =>
          have H := HC39.out
          clear HC39
          replace H := Option.bind_eq_some_iff.mp H
          obtain ⟨t345, A400, H⟩ := H
          replace H : (if t345 = true then ((jobshellref46_snaps.f kj1 l0_4 2).bind fun t346 => (if t346 = true then ((jobshellref46_snaps.f kj1 l0_5 2).bind fun t347 => (if t347 = true then (if a0_2 < 0 then (jobshellref46_Valid.j1 kj1 true a0_0 a0_1 a0_2 l0_3 l0_4 l0_5 a0_6 a0_7 a0_8 a0_9) else (if a0_2 > (a0_0.size : Int) then (jobshellref46_Valid.j1 kj1 true a0_0 a0_1 a0_2 l0_3 l0_4 l0_5 a0_6 a0_7 a0_8 a0_9) else (if a0_7 < 0 then (jobshellref46_Valid.j1 kj1 true a0_0 a0_1 a0_2 l0_3 l0_4 l0_5 a0_6 a0_7 a0_8 a0_9) else (if a0_7 > 28 then (jobshellref46_Valid.j1 kj1 true a0_0 a0_1 a0_2 l0_3 l0_4 l0_5 a0_6 a0_7 a0_8 a0_9) else (if a0_8 < 0 then (jobshellref46_Valid.j1 kj1 true a0_0 a0_1 a0_2 l0_3 l0_4 l0_5 a0_6 a0_7 a0_8 a0_9) else (jobshellref46_Valid.j1 kj1 (decide (a0_8 > 128)) a0_0 a0_1 a0_2 l0_3 l0_4 l0_5 a0_6 a0_7 a0_8 a0_9)))))) else (jobshellref46_Valid.j1 kj1 true a0_0 a0_1 a0_2 l0_3 l0_4 l0_5 a0_6 a0_7 a0_8 a0_9))) else (jobshellref46_Valid.j1 kj1 true a0_0 a0_1 a0_2 l0_3 l0_4 l0_5 a0_6 a0_7 a0_8 a0_9))) else (jobshellref46_Valid.j1 kj1 true a0_0 a0_1 a0_2 l0_3 l0_4 l0_5 a0_6 a0_7 a0_8 a0_9)) = some r := H
          have A40 := Aside0.mk A400
          clear A400
          by_cases c41 : t345 = true
          · subst c41
            have H1 : ((jobshellref46_snaps.f kj1 l0_4 2).bind fun t346 => (if t346 = true then ((jobshellref46_snaps.f kj1 l0_5 2).bind fun t347 => (if t347 = true then (if a0_2 < 0 then (jobshellref46_Valid.j1 kj1 true a0_0 a0_1 a0_2 l0_3 l0_4 l0_5 a0_6 a0_7 a0_8 a0_9) else (if a0_2 > (a0_0.size : Int) then (jobshellref46_Valid.j1 kj1 true a0_0 a0_1 a0_2 l0_3 l0_4 l0_5 a0_6 a0_7 a0_8 a0_9) else (if a0_7 < 0 then (jobshellref46_Valid.j1 kj1 true a0_0 a0_1 a0_2 l0_3 l0_4 l0_5 a0_6 a0_7 a0_8 a0_9) else (if a0_7 > 28 then (jobshellref46_Valid.j1 kj1 true a0_0 a0_1 a0_2 l0_3 l0_4 l0_5 a0_6 a0_7 a0_8 a0_9) else (if a0_8 < 0 then (jobshellref46_Valid.j1 kj1 true a0_0 a0_1 a0_2 l0_3 l0_4 l0_5 a0_6 a0_7 a0_8 a0_9) else (jobshellref46_Valid.j1 kj1 (decide (a0_8 > 128)) a0_0 a0_1 a0_2 l0_3 l0_4 l0_5 a0_6 a0_7 a0_8 a0_9)))))) else (jobshellref46_Valid.j1 kj1 true a0_0 a0_1 a0_2 l0_3 l0_4 l0_5 a0_6 a0_7 a0_8 a0_9))) else (jobshellref46_Valid.j1 kj1 true a0_0 a0_1 a0_2 l0_3 l0_4 l0_5 a0_6 a0_7 a0_8 a0_9))) = some r := by rw [if_pos rfl] at H; exact H
            clear H
            have H := H1
            clear H1
            replace H := Option.bind_eq_some_iff.mp H
            obtain ⟨t346, A420, H⟩ := H
            replace H : (if t346 = true then ((jobshellref46_snaps.f kj1 l0_5 2).bind fun t347 => (if t347 = true then (if a0_2 < 0 then (jobshellref46_Valid.j1 kj1 true a0_0 a0_1 a0_2 l0_3 l0_4 l0_5 a0_6 a0_7 a0_8 a0_9) else (if a0_2 > (a0_0.size : Int) then (jobshellref46_Valid.j1 kj1 true a0_0 a0_1 a0_2 l0_3 l0_4 l0_5 a0_6 a0_7 a0_8 a0_9) else (if a0_7 < 0 then (jobshellref46_Valid.j1 kj1 true a0_0 a0_1 a0_2 l0_3 l0_4 l0_5 a0_6 a0_7 a0_8 a0_9) else (if a0_7 > 28 then (jobshellref46_Valid.j1 kj1 true a0_0 a0_1 a0_2 l0_3 l0_4 l0_5 a0_6 a0_7 a0_8 a0_9) else (if a0_8 < 0 then (jobshellref46_Valid.j1 kj1 true a0_0 a0_1 a0_2 l0_3 l0_4 l0_5 a0_6 a0_7 a0_8 a0_9) else (jobshellref46_Valid.j1 kj1 (decide (a0_8 > 128)) a0_0 a0_1 a0_2 l0_3 l0_4 l0_5 a0_6 a0_7 a0_8 a0_9)))))) else (jobshellref46_Valid.j1 kj1 true a0_0 a0_1 a0_2 l0_3 l0_4 l0_5 a0_6 a0_7 a0_8 a0_9))) else (jobshellref46_Valid.j1 kj1 true a0_0 a0_1 a0_2 l0_3 l0_4 l0_5 a0_6 a0_7 a0_8 a0_9)) = some r := H
            have A42 := Aside0.mk A420
            clear A420
            by_cases c43 : t346 = true
            · subst c43
              have H1 : ((jobshellref46_snaps.f kj1 l0_5 2).bind fun t347 => (if t347 = true then (if a0_2 < 0 then (jobshellref46_Valid.j1 kj1 true a0_0 a0_1 a0_2 l0_3 l0_4 l0_5 a0_6 a0_7 a0_8 a0_9) else (if a0_2 > (a0_0.size : Int) then (jobshellref46_Valid.j1 kj1 true a0_0 a0_1 a0_2 l0_3 l0_4 l0_5 a0_6 a0_7 a0_8 a0_9) else (if a0_7 < 0 then (jobshellref46_Valid.j1 kj1 true a0_0 a0_1 a0_2 l0_3 l0_4 l0_5 a0_6 a0_7 a0_8 a0_9) else (if a0_7 > 28 then (jobshellref46_Valid.j1 kj1 true a0_0 a0_1 a0_2 l0_3 l0_4 l0_5 a0_6 a0_7 a0_8 a0_9) else (if a0_8 < 0 then (jobshellref46_Valid.j1 kj1 true a0_0 a0_1 a0_2 l0_3 l0_4 l0_5 a0_6 a0_7 a0_8 a0_9) else (jobshellref46_Valid.j1 kj1 (decide (a0_8 > 128)) a0_0 a0_1 a0_2 l0_3 l0_4 l0_5 a0_6 a0_7 a0_8 a0_9)))))) else (jobshellref46_Valid.j1 kj1 true a0_0 a0_1 a0_2 l0_3 l0_4 l0_5 a0_6 a0_7 a0_8 a0_9))) = some r := by rw [if_pos rfl] at H; exact H
              clear H
              have H := H1
              clear H1
              replace H := Option.bind_eq_some_iff.mp H
              obtain ⟨t347, A440, H⟩ := H
              replace H : (if t347 = true then (if a0_2 < 0 then (jobshellref46_Valid.j1 kj1 true a0_0 a0_1 a0_2 l0_3 l0_4 l0_5 a0_6 a0_7 a0_8 a0_9) else (if a0_2 > (a0_0.size : Int) then (jobshellref46_Valid.j1 kj1 true a0_0 a0_1 a0_2 l0_3 l0_4 l0_5 a0_6 a0_7 a0_8 a0_9) else (if a0_7 < 0 then (jobshellref46_Valid.j1 kj1 true a0_0 a0_1 a0_2 l0_3 l0_4 l0_5 a0_6 a0_7 a0_8 a0_9) else (if a0_7 > 28 then (jobshellref46_Valid.j1 kj1 true a0_0 a0_1 a0_2 l0_3 l0_4 l0_5 a0_6 a0_7 a0_8 a0_9) else (if a0_8 < 0 then (jobshellref46_Valid.j1 kj1 true a0_0 a0_1 a0_2 l0_3 l0_4 l0_5 a0_6 a0_7 a0_8 a0_9) else (jobshellref46_Valid.j1 kj1 (decide (a0_8 > 128)) a0_0 a0_1 a0_2 l0_3 l0_4 l0_5 a0_6 a0_7 a0_8 a0_9)))))) else (jobshellref46_Valid.j1 kj1 true a0_0 a0_1 a0_2 l0_3 l0_4 l0_5 a0_6 a0_7 a0_8 a0_9)) = some r := H
              have A44 := Aside0.mk A440
              clear A440
              by_cases c45 : t347 = true
              · subst c45
                have H1 : (if a0_2 < 0 then (jobshellref46_Valid.j1 kj1 true a0_0 a0_1 a0_2 l0_3 l0_4 l0_5 a0_6 a0_7 a0_8 a0_9) else (if a0_2 > (a0_0.size : Int) then (jobshellref46_Valid.j1 kj1 true a0_0 a0_1 a0_2 l0_3 l0_4 l0_5 a0_6 a0_7 a0_8 a0_9) else (if a0_7 < 0 then (jobshellref46_Valid.j1 kj1 true a0_0 a0_1 a0_2 l0_3 l0_4 l0_5 a0_6 a0_7 a0_8 a0_9) else (if a0_7 > 28 then (jobshellref46_Valid.j1 kj1 true a0_0 a0_1 a0_2 l0_3 l0_4 l0_5 a0_6 a0_7 a0_8 a0_9) else (if a0_8 < 0 then (jobshellref46_Valid.j1 kj1 true a0_0 a0_1 a0_2 l0_3 l0_4 l0_5 a0_6 a0_7 a0_8 a0_9) else (jobshellref46_Valid.j1 kj1 (decide (a0_8 > 128)) a0_0 a0_1 a0_2 l0_3 l0_4 l0_5 a0_6 a0_7 a0_8 a0_9)))))) = some r := by rw [if_pos rfl] at H; exact H
                clear H
                have H := H1
                clear H1
                by_cases c46 : a0_2 < 0
                · rw [if_pos c46] at H
                  have c46b0 : decide (a0_2 < 0) = true := decide_eq_true c46
                  clear c46
                  (first | rw [c46b0] | (simp only [i64_w, i32_w]; rw [c46b0]) | skip)
                  have H' := Aside0.mk H
                  clear H
                  have hcz47_0 : wc.cell? ⟨gb340, 0, none⟩ = some (.string a0_0) := (blk_cell BK340.out 0).trans rfl
                  have hcz47_1 : wc.cell? ⟨gb340, 1, none⟩ = some (.int .i64 a0_1) := (blk_cell BK340.out 1).trans rfl
                  have hcz47_2 : wc.cell? ⟨gb340, 2, none⟩ = some (.int .i64 a0_2) := (blk_cell BK340.out 2).trans rfl
                  have hcz47_3 : wc.cell? ⟨gb340, 3, none⟩ = some (.slice A0_3 l0_3.length c0_3) := (blk_cell BK340.out 3).trans rfl
                  have hcz47_4 : wc.cell? ⟨gb340, 4, none⟩ = some (.slice A0_4 l0_4.length c0_4) := (blk_cell BK340.out 4).trans rfl
                  have hcz47_5 : wc.cell? ⟨gb340, 5, none⟩ = some (.slice A0_5 l0_5.length c0_5) := (blk_cell BK340.out 5).trans rfl
                  have hcz47_6 : wc.cell? ⟨gb340, 6, none⟩ = some (.string a0_6) := (blk_cell BK340.out 6).trans rfl
                  have hcz47_7 : wc.cell? ⟨gb340, 7, none⟩ = some (.int .i64 a0_7) := (blk_cell BK340.out 7).trans rfl
                  have hcz47_8 : wc.cell? ⟨gb340, 8, none⟩ = some (.int .i64 a0_8) := (blk_cell BK340.out 8).trans rfl
                  have hcz47_9 : wc.cell? ⟨gb340, 9, none⟩ = some (.string a0_9) := (blk_cell BK340.out 9).trans rfl
                  have hfz47_0 := blk_frozen BK340.out 0
                  have hfz47_1 := blk_frozen BK340.out 1
                  have hfz47_2 := blk_frozen BK340.out 2
                  have hfz47_3 := blk_frozen BK340.out 3
                  have hfz47_4 := blk_frozen BK340.out 4
                  have hfz47_5 := blk_frozen BK340.out 5
                  have hfz47_6 := blk_frozen BK340.out 6
                  have hfz47_7 := blk_frozen BK340.out 7
                  have hfz47_8 := blk_frozen BK340.out 8
                  have hfz47_9 := blk_frozen BK340.out 9
                  go_wp2_with (first | ((with_reducible refine gate_callee (f := 23) rfl ?_); refine goesL_ (some 39) rfl rfl Try.func23 (by kernel_rfl) rfl #[.agg #[.string a0_0, .int .i64 a0_1], .int .i64 2] rfl (by (try simp only [List.map_toArray, List.map_cons, List.map_nil]); first | done | rfl | (simp only [List.length_drop, List.length_take]; rfl)) ?_; (with_reducible refine (jobshellref46_snap.calls a0_0 a0_1 2 true _ A40.out).mono ?_); rintro e w48 ⟨rfl, hb⟩; refine ⟨_, rfl, ?_⟩; have n0_ := Aside0.mk (blk_below (g := gb340) (o := .cells #[.string a0_0, .int .i64 a0_1, .int .i64 a0_2, .slice A0_3 l0_3.length c0_3, .slice A0_4 l0_4.length c0_4, .slice A0_5 l0_5.length c0_5, .string a0_6, .int .i64 a0_7, .int .i64 a0_8, .string a0_9] 27 (0, 0)) (by (with_reducible repeat (first | refine blk_drewN ?_ _ | refine blk_drew ?_ | refine blk_alloc ?_ _)); exact BK340.out) hb); have n1_ := Aside0.mk (below_step (by repeat (first | (with_reducible first | exact HB.out | apply below_alloc | apply pw_below_drewN | apply below_drew1 | refine below_set ?_ GE340.out) | exact HB.out)) hb); clear BK340; clear HB; have BK340 := n0_; have HB := n1_; clear n0_ n1_; (try clear hb); (try clear hb2); (try clear hk); (try clear hi); have hcz49_0 : w48.cell? ⟨gb340, 0, none⟩ = some (.string a0_0) := (blk_cell BK340.out 0).trans rfl; have hcz49_1 : w48.cell? ⟨gb340, 1, none⟩ = some (.int .i64 a0_1) := (blk_cell BK340.out 1).trans rfl; have hcz49_2 : w48.cell? ⟨gb340, 2, none⟩ = some (.int .i64 a0_2) := (blk_cell BK340.out 2).trans rfl; have hcz49_3 : w48.cell? ⟨gb340, 3, none⟩ = some (.slice A0_3 l0_3.length c0_3) := (blk_cell BK340.out 3).trans rfl; have hcz49_4 : w48.cell? ⟨gb340, 4, none⟩ = some (.slice A0_4 l0_4.length c0_4) := (blk_cell BK340.out 4).trans rfl; have hcz49_5 : w48.cell? ⟨gb340, 5, none⟩ = some (.slice A0_5 l0_5.length c0_5) := (blk_cell BK340.out 5).trans rfl; have hcz49_6 : w48.cell? ⟨gb340, 6, none⟩ = some (.string a0_6) := (blk_cell BK340.out 6).trans rfl; have hcz49_7 : w48.cell? ⟨gb340, 7, none⟩ = some (.int .i64 a0_7) := (blk_cell BK340.out 7).trans rfl; have hcz49_8 : w48.cell? ⟨gb340, 8, none⟩ = some (.int .i64 a0_8) := (blk_cell BK340.out 8).trans rfl; have hcz49_9 : w48.cell? ⟨gb340, 9, none⟩ = some (.string a0_9) := (blk_cell BK340.out 9).trans rfl; have hfz49_0 := blk_frozen BK340.out 0; have hfz49_1 := blk_frozen BK340.out 1; have hfz49_2 := blk_frozen BK340.out 2; have hfz49_3 := blk_frozen BK340.out 3; have hfz49_4 := blk_frozen BK340.out 4; have hfz49_5 := blk_frozen BK340.out 5; have hfz49_6 := blk_frozen BK340.out 6; have hfz49_7 := blk_frozen BK340.out 7; have hfz49_8 := blk_frozen BK340.out 8; have hfz49_9 := blk_frozen BK340.out 9) | (go_at_call 25; (with_reducible refine (jobshellref46_snaps.calls kj1 _ _ l0_4 2 true _ ?side1 ?side2 A42.out).mono ?_); (case side1 => repeat (first | exact (Kd.C_below HR0_4.out HB.out) | (with_reducible refine Kd.C_alloc ?_ _) | (with_reducible refine Kd.C_drewN ?_ _) | (with_reducible refine Kd.C_drew ?_))); (case side2 => exact HC0_4.out); rintro e w50 ⟨rfl, hb⟩; have n0_ := Aside0.mk (blk_below (g := gb340) (o := .cells #[.string a0_0, .int .i64 a0_1, .int .i64 a0_2, .slice A0_3 l0_3.length c0_3, .slice A0_4 l0_4.length c0_4, .slice A0_5 l0_5.length c0_5, .string a0_6, .int .i64 a0_7, .int .i64 a0_8, .string a0_9] 27 (0, 0)) (by (with_reducible repeat (first | refine blk_drewN ?_ _ | refine blk_drew ?_ | refine blk_alloc ?_ _)); exact BK340.out) hb); have n1_ := Aside0.mk (below_step (by repeat (first | (with_reducible first | exact HB.out | apply below_alloc | apply pw_below_drewN | apply below_drew1 | refine below_set ?_ GE340.out) | exact HB.out)) hb); clear BK340; clear HB; have BK340 := n0_; have HB := n1_; clear n0_ n1_; (try clear hb); (try clear hb2); (try clear hk); (try clear hi); have hcz51_0 : w50.cell? ⟨gb340, 0, none⟩ = some (.string a0_0) := (blk_cell BK340.out 0).trans rfl; have hcz51_1 : w50.cell? ⟨gb340, 1, none⟩ = some (.int .i64 a0_1) := (blk_cell BK340.out 1).trans rfl; have hcz51_2 : w50.cell? ⟨gb340, 2, none⟩ = some (.int .i64 a0_2) := (blk_cell BK340.out 2).trans rfl; have hcz51_3 : w50.cell? ⟨gb340, 3, none⟩ = some (.slice A0_3 l0_3.length c0_3) := (blk_cell BK340.out 3).trans rfl; have hcz51_4 : w50.cell? ⟨gb340, 4, none⟩ = some (.slice A0_4 l0_4.length c0_4) := (blk_cell BK340.out 4).trans rfl; have hcz51_5 : w50.cell? ⟨gb340, 5, none⟩ = some (.slice A0_5 l0_5.length c0_5) := (blk_cell BK340.out 5).trans rfl; have hcz51_6 : w50.cell? ⟨gb340, 6, none⟩ = some (.string a0_6) := (blk_cell BK340.out 6).trans rfl; have hcz51_7 : w50.cell? ⟨gb340, 7, none⟩ = some (.int .i64 a0_7) := (blk_cell BK340.out 7).trans rfl; have hcz51_8 : w50.cell? ⟨gb340, 8, none⟩ = some (.int .i64 a0_8) := (blk_cell BK340.out 8).trans rfl; have hcz51_9 : w50.cell? ⟨gb340, 9, none⟩ = some (.string a0_9) := (blk_cell BK340.out 9).trans rfl; have hfz51_0 := blk_frozen BK340.out 0; have hfz51_1 := blk_frozen BK340.out 1; have hfz51_2 := blk_frozen BK340.out 2; have hfz51_3 := blk_frozen BK340.out 3; have hfz51_4 := blk_frozen BK340.out 4; have hfz51_5 := blk_frozen BK340.out 5; have hfz51_6 := blk_frozen BK340.out 6; have hfz51_7 := blk_frozen BK340.out 7; have hfz51_8 := blk_frozen BK340.out 8; have hfz51_9 := blk_frozen BK340.out 9) | (go_at_call 25; (with_reducible refine (jobshellref46_snaps.calls kj1 _ _ l0_5 2 true _ ?side1 ?side2 A44.out).mono ?_); (case side1 => repeat (first | exact (Kd.C_below HR0_5.out HB.out) | (with_reducible refine Kd.C_alloc ?_ _) | (with_reducible refine Kd.C_drewN ?_ _) | (with_reducible refine Kd.C_drew ?_))); (case side2 => exact HC0_5.out); rintro e w52 ⟨rfl, hb⟩; have n0_ := Aside0.mk (blk_below (g := gb340) (o := .cells #[.string a0_0, .int .i64 a0_1, .int .i64 a0_2, .slice A0_3 l0_3.length c0_3, .slice A0_4 l0_4.length c0_4, .slice A0_5 l0_5.length c0_5, .string a0_6, .int .i64 a0_7, .int .i64 a0_8, .string a0_9] 27 (0, 0)) (by (with_reducible repeat (first | refine blk_drewN ?_ _ | refine blk_drew ?_ | refine blk_alloc ?_ _)); exact BK340.out) hb); have n1_ := Aside0.mk (below_step (by repeat (first | (with_reducible first | exact HB.out | apply below_alloc | apply pw_below_drewN | apply below_drew1 | refine below_set ?_ GE340.out) | exact HB.out)) hb); clear BK340; clear HB; have BK340 := n0_; have HB := n1_; clear n0_ n1_; (try clear hb); (try clear hb2); (try clear hk); (try clear hi); have hcz53_0 : w52.cell? ⟨gb340, 0, none⟩ = some (.string a0_0) := (blk_cell BK340.out 0).trans rfl; have hcz53_1 : w52.cell? ⟨gb340, 1, none⟩ = some (.int .i64 a0_1) := (blk_cell BK340.out 1).trans rfl; have hcz53_2 : w52.cell? ⟨gb340, 2, none⟩ = some (.int .i64 a0_2) := (blk_cell BK340.out 2).trans rfl; have hcz53_3 : w52.cell? ⟨gb340, 3, none⟩ = some (.slice A0_3 l0_3.length c0_3) := (blk_cell BK340.out 3).trans rfl; have hcz53_4 : w52.cell? ⟨gb340, 4, none⟩ = some (.slice A0_4 l0_4.length c0_4) := (blk_cell BK340.out 4).trans rfl; have hcz53_5 : w52.cell? ⟨gb340, 5, none⟩ = some (.slice A0_5 l0_5.length c0_5) := (blk_cell BK340.out 5).trans rfl; have hcz53_6 : w52.cell? ⟨gb340, 6, none⟩ = some (.string a0_6) := (blk_cell BK340.out 6).trans rfl; have hcz53_7 : w52.cell? ⟨gb340, 7, none⟩ = some (.int .i64 a0_7) := (blk_cell BK340.out 7).trans rfl; have hcz53_8 : w52.cell? ⟨gb340, 8, none⟩ = some (.int .i64 a0_8) := (blk_cell BK340.out 8).trans rfl; have hcz53_9 : w52.cell? ⟨gb340, 9, none⟩ = some (.string a0_9) := (blk_cell BK340.out 9).trans rfl; have hfz53_0 := blk_frozen BK340.out 0; have hfz53_1 := blk_frozen BK340.out 1; have hfz53_2 := blk_frozen BK340.out 2; have hfz53_3 := blk_frozen BK340.out 3; have hfz53_4 := blk_frozen BK340.out 4; have hfz53_5 := blk_frozen BK340.out 5; have hfz53_6 := blk_frozen BK340.out 6; have hfz53_7 := blk_frozen BK340.out 7; have hfz53_8 := blk_frozen BK340.out 8; have hfz53_9 := blk_frozen BK340.out 9))
                  go_meet
                  case rel => exact ⟨_, (true), (by first | rfl | (simp; done) | (simp [*]; done)), H', ⟨by have := HJ1.out; first | omega | exact Nat.le_refl _⟩, ⟨by (with_reducible repeat (first | refine blk_drewN ?_ _ | refine blk_drew ?_ | refine blk_alloc ?_ _)); exact BK340.out⟩, ⟨by repeat (first | (with_reducible first | exact HB.out | apply below_alloc | apply pw_below_drewN | apply below_drew1 | refine below_set ?_ GE340.out) | exact HB.out)⟩⟩
                · rw [if_neg c46] at H
                  have c46b0 : decide (a0_2 < 0) = false := decide_eq_false c46
                  clear c46
                  (first | rw [c46b0] | (simp only [i64_w, i32_w]; rw [c46b0]) | skip)
                  by_cases c54 : a0_2 > (a0_0.size : Int)
                  · rw [if_pos c54] at H
                    have c54b0 : decide ((a0_0.size : Int) < a0_2) = true := decide_eq_true c54
                    clear c54
                    have H' := Aside0.mk H
                    clear H
                    have hcz55_0 : wc.cell? ⟨gb340, 0, none⟩ = some (.string a0_0) := (blk_cell BK340.out 0).trans rfl
                    have hcz55_1 : wc.cell? ⟨gb340, 1, none⟩ = some (.int .i64 a0_1) := (blk_cell BK340.out 1).trans rfl
                    have hcz55_2 : wc.cell? ⟨gb340, 2, none⟩ = some (.int .i64 a0_2) := (blk_cell BK340.out 2).trans rfl
                    have hcz55_3 : wc.cell? ⟨gb340, 3, none⟩ = some (.slice A0_3 l0_3.length c0_3) := (blk_cell BK340.out 3).trans rfl
                    have hcz55_4 : wc.cell? ⟨gb340, 4, none⟩ = some (.slice A0_4 l0_4.length c0_4) := (blk_cell BK340.out 4).trans rfl
                    have hcz55_5 : wc.cell? ⟨gb340, 5, none⟩ = some (.slice A0_5 l0_5.length c0_5) := (blk_cell BK340.out 5).trans rfl
                    have hcz55_6 : wc.cell? ⟨gb340, 6, none⟩ = some (.string a0_6) := (blk_cell BK340.out 6).trans rfl
                    have hcz55_7 : wc.cell? ⟨gb340, 7, none⟩ = some (.int .i64 a0_7) := (blk_cell BK340.out 7).trans rfl
                    have hcz55_8 : wc.cell? ⟨gb340, 8, none⟩ = some (.int .i64 a0_8) := (blk_cell BK340.out 8).trans rfl
                    have hcz55_9 : wc.cell? ⟨gb340, 9, none⟩ = some (.string a0_9) := (blk_cell BK340.out 9).trans rfl
                    have hfz55_0 := blk_frozen BK340.out 0
                    have hfz55_1 := blk_frozen BK340.out 1
                    have hfz55_2 := blk_frozen BK340.out 2
                    have hfz55_3 := blk_frozen BK340.out 3
                    have hfz55_4 := blk_frozen BK340.out 4
                    have hfz55_5 := blk_frozen BK340.out 5
                    have hfz55_6 := blk_frozen BK340.out 6
                    have hfz55_7 := blk_frozen BK340.out 7
                    have hfz55_8 := blk_frozen BK340.out 8
                    have hfz55_9 := blk_frozen BK340.out 9
                    go_wp2_with (first | ((with_reducible refine gate_callee (f := 23) rfl ?_); refine goesL_ (some 39) rfl rfl Try.func23 (by kernel_rfl) rfl #[.agg #[.string a0_0, .int .i64 a0_1], .int .i64 2] rfl (by (try simp only [List.map_toArray, List.map_cons, List.map_nil]); first | done | rfl | (simp only [List.length_drop, List.length_take]; rfl)) ?_; (with_reducible refine (jobshellref46_snap.calls a0_0 a0_1 2 true _ A40.out).mono ?_); rintro e w56 ⟨rfl, hb⟩; refine ⟨_, rfl, ?_⟩; have n0_ := Aside0.mk (blk_below (g := gb340) (o := .cells #[.string a0_0, .int .i64 a0_1, .int .i64 a0_2, .slice A0_3 l0_3.length c0_3, .slice A0_4 l0_4.length c0_4, .slice A0_5 l0_5.length c0_5, .string a0_6, .int .i64 a0_7, .int .i64 a0_8, .string a0_9] 27 (0, 0)) (by (with_reducible repeat (first | refine blk_drewN ?_ _ | refine blk_drew ?_ | refine blk_alloc ?_ _)); exact BK340.out) hb); have n1_ := Aside0.mk (below_step (by repeat (first | (with_reducible first | exact HB.out | apply below_alloc | apply pw_below_drewN | apply below_drew1 | refine below_set ?_ GE340.out) | exact HB.out)) hb); clear BK340; clear HB; have BK340 := n0_; have HB := n1_; clear n0_ n1_; (try clear hb); (try clear hb2); (try clear hk); (try clear hi); have hcz57_0 : w56.cell? ⟨gb340, 0, none⟩ = some (.string a0_0) := (blk_cell BK340.out 0).trans rfl; have hcz57_1 : w56.cell? ⟨gb340, 1, none⟩ = some (.int .i64 a0_1) := (blk_cell BK340.out 1).trans rfl; have hcz57_2 : w56.cell? ⟨gb340, 2, none⟩ = some (.int .i64 a0_2) := (blk_cell BK340.out 2).trans rfl; have hcz57_3 : w56.cell? ⟨gb340, 3, none⟩ = some (.slice A0_3 l0_3.length c0_3) := (blk_cell BK340.out 3).trans rfl; have hcz57_4 : w56.cell? ⟨gb340, 4, none⟩ = some (.slice A0_4 l0_4.length c0_4) := (blk_cell BK340.out 4).trans rfl; have hcz57_5 : w56.cell? ⟨gb340, 5, none⟩ = some (.slice A0_5 l0_5.length c0_5) := (blk_cell BK340.out 5).trans rfl; have hcz57_6 : w56.cell? ⟨gb340, 6, none⟩ = some (.string a0_6) := (blk_cell BK340.out 6).trans rfl; have hcz57_7 : w56.cell? ⟨gb340, 7, none⟩ = some (.int .i64 a0_7) := (blk_cell BK340.out 7).trans rfl; have hcz57_8 : w56.cell? ⟨gb340, 8, none⟩ = some (.int .i64 a0_8) := (blk_cell BK340.out 8).trans rfl; have hcz57_9 : w56.cell? ⟨gb340, 9, none⟩ = some (.string a0_9) := (blk_cell BK340.out 9).trans rfl; have hfz57_0 := blk_frozen BK340.out 0; have hfz57_1 := blk_frozen BK340.out 1; have hfz57_2 := blk_frozen BK340.out 2; have hfz57_3 := blk_frozen BK340.out 3; have hfz57_4 := blk_frozen BK340.out 4; have hfz57_5 := blk_frozen BK340.out 5; have hfz57_6 := blk_frozen BK340.out 6; have hfz57_7 := blk_frozen BK340.out 7; have hfz57_8 := blk_frozen BK340.out 8; have hfz57_9 := blk_frozen BK340.out 9) | (go_at_call 25; (with_reducible refine (jobshellref46_snaps.calls kj1 _ _ l0_4 2 true _ ?side1 ?side2 A42.out).mono ?_); (case side1 => repeat (first | exact (Kd.C_below HR0_4.out HB.out) | (with_reducible refine Kd.C_alloc ?_ _) | (with_reducible refine Kd.C_drewN ?_ _) | (with_reducible refine Kd.C_drew ?_))); (case side2 => exact HC0_4.out); rintro e w58 ⟨rfl, hb⟩; have n0_ := Aside0.mk (blk_below (g := gb340) (o := .cells #[.string a0_0, .int .i64 a0_1, .int .i64 a0_2, .slice A0_3 l0_3.length c0_3, .slice A0_4 l0_4.length c0_4, .slice A0_5 l0_5.length c0_5, .string a0_6, .int .i64 a0_7, .int .i64 a0_8, .string a0_9] 27 (0, 0)) (by (with_reducible repeat (first | refine blk_drewN ?_ _ | refine blk_drew ?_ | refine blk_alloc ?_ _)); exact BK340.out) hb); have n1_ := Aside0.mk (below_step (by repeat (first | (with_reducible first | exact HB.out | apply below_alloc | apply pw_below_drewN | apply below_drew1 | refine below_set ?_ GE340.out) | exact HB.out)) hb); clear BK340; clear HB; have BK340 := n0_; have HB := n1_; clear n0_ n1_; (try clear hb); (try clear hb2); (try clear hk); (try clear hi); have hcz59_0 : w58.cell? ⟨gb340, 0, none⟩ = some (.string a0_0) := (blk_cell BK340.out 0).trans rfl; have hcz59_1 : w58.cell? ⟨gb340, 1, none⟩ = some (.int .i64 a0_1) := (blk_cell BK340.out 1).trans rfl; have hcz59_2 : w58.cell? ⟨gb340, 2, none⟩ = some (.int .i64 a0_2) := (blk_cell BK340.out 2).trans rfl; have hcz59_3 : w58.cell? ⟨gb340, 3, none⟩ = some (.slice A0_3 l0_3.length c0_3) := (blk_cell BK340.out 3).trans rfl; have hcz59_4 : w58.cell? ⟨gb340, 4, none⟩ = some (.slice A0_4 l0_4.length c0_4) := (blk_cell BK340.out 4).trans rfl; have hcz59_5 : w58.cell? ⟨gb340, 5, none⟩ = some (.slice A0_5 l0_5.length c0_5) := (blk_cell BK340.out 5).trans rfl; have hcz59_6 : w58.cell? ⟨gb340, 6, none⟩ = some (.string a0_6) := (blk_cell BK340.out 6).trans rfl; have hcz59_7 : w58.cell? ⟨gb340, 7, none⟩ = some (.int .i64 a0_7) := (blk_cell BK340.out 7).trans rfl; have hcz59_8 : w58.cell? ⟨gb340, 8, none⟩ = some (.int .i64 a0_8) := (blk_cell BK340.out 8).trans rfl; have hcz59_9 : w58.cell? ⟨gb340, 9, none⟩ = some (.string a0_9) := (blk_cell BK340.out 9).trans rfl; have hfz59_0 := blk_frozen BK340.out 0; have hfz59_1 := blk_frozen BK340.out 1; have hfz59_2 := blk_frozen BK340.out 2; have hfz59_3 := blk_frozen BK340.out 3; have hfz59_4 := blk_frozen BK340.out 4; have hfz59_5 := blk_frozen BK340.out 5; have hfz59_6 := blk_frozen BK340.out 6; have hfz59_7 := blk_frozen BK340.out 7; have hfz59_8 := blk_frozen BK340.out 8; have hfz59_9 := blk_frozen BK340.out 9) | (go_at_call 25; (with_reducible refine (jobshellref46_snaps.calls kj1 _ _ l0_5 2 true _ ?side1 ?side2 A44.out).mono ?_); (case side1 => repeat (first | exact (Kd.C_below HR0_5.out HB.out) | (with_reducible refine Kd.C_alloc ?_ _) | (with_reducible refine Kd.C_drewN ?_ _) | (with_reducible refine Kd.C_drew ?_))); (case side2 => exact HC0_5.out); rintro e w60 ⟨rfl, hb⟩; have n0_ := Aside0.mk (blk_below (g := gb340) (o := .cells #[.string a0_0, .int .i64 a0_1, .int .i64 a0_2, .slice A0_3 l0_3.length c0_3, .slice A0_4 l0_4.length c0_4, .slice A0_5 l0_5.length c0_5, .string a0_6, .int .i64 a0_7, .int .i64 a0_8, .string a0_9] 27 (0, 0)) (by (with_reducible repeat (first | refine blk_drewN ?_ _ | refine blk_drew ?_ | refine blk_alloc ?_ _)); exact BK340.out) hb); have n1_ := Aside0.mk (below_step (by repeat (first | (with_reducible first | exact HB.out | apply below_alloc | apply pw_below_drewN | apply below_drew1 | refine below_set ?_ GE340.out) | exact HB.out)) hb); clear BK340; clear HB; have BK340 := n0_; have HB := n1_; clear n0_ n1_; (try clear hb); (try clear hb2); (try clear hk); (try clear hi); have hcz61_0 : w60.cell? ⟨gb340, 0, none⟩ = some (.string a0_0) := (blk_cell BK340.out 0).trans rfl; have hcz61_1 : w60.cell? ⟨gb340, 1, none⟩ = some (.int .i64 a0_1) := (blk_cell BK340.out 1).trans rfl; have hcz61_2 : w60.cell? ⟨gb340, 2, none⟩ = some (.int .i64 a0_2) := (blk_cell BK340.out 2).trans rfl; have hcz61_3 : w60.cell? ⟨gb340, 3, none⟩ = some (.slice A0_3 l0_3.length c0_3) := (blk_cell BK340.out 3).trans rfl; have hcz61_4 : w60.cell? ⟨gb340, 4, none⟩ = some (.slice A0_4 l0_4.length c0_4) := (blk_cell BK340.out 4).trans rfl; have hcz61_5 : w60.cell? ⟨gb340, 5, none⟩ = some (.slice A0_5 l0_5.length c0_5) := (blk_cell BK340.out 5).trans rfl; have hcz61_6 : w60.cell? ⟨gb340, 6, none⟩ = some (.string a0_6) := (blk_cell BK340.out 6).trans rfl; have hcz61_7 : w60.cell? ⟨gb340, 7, none⟩ = some (.int .i64 a0_7) := (blk_cell BK340.out 7).trans rfl; have hcz61_8 : w60.cell? ⟨gb340, 8, none⟩ = some (.int .i64 a0_8) := (blk_cell BK340.out 8).trans rfl; have hcz61_9 : w60.cell? ⟨gb340, 9, none⟩ = some (.string a0_9) := (blk_cell BK340.out 9).trans rfl; have hfz61_0 := blk_frozen BK340.out 0; have hfz61_1 := blk_frozen BK340.out 1; have hfz61_2 := blk_frozen BK340.out 2; have hfz61_3 := blk_frozen BK340.out 3; have hfz61_4 := blk_frozen BK340.out 4; have hfz61_5 := blk_frozen BK340.out 5; have hfz61_6 := blk_frozen BK340.out 6; have hfz61_7 := blk_frozen BK340.out 7; have hfz61_8 := blk_frozen BK340.out 8; have hfz61_9 := blk_frozen BK340.out 9))
                    go_meet
                    case rel => exact ⟨_, (true), (by first | rfl | (simp; done) | (simp [*]; done)), H', ⟨by have := HJ1.out; first | omega | exact Nat.le_refl _⟩, ⟨by (with_reducible repeat (first | refine blk_drewN ?_ _ | refine blk_drew ?_ | refine blk_alloc ?_ _)); exact BK340.out⟩, ⟨by repeat (first | (with_reducible first | exact HB.out | apply below_alloc | apply pw_below_drewN | apply below_drew1 | refine below_set ?_ GE340.out) | exact HB.out)⟩⟩
                  · rw [if_neg c54] at H
                    have c54b0 : decide ((a0_0.size : Int) < a0_2) = false := decide_eq_false c54
                    clear c54
                    by_cases c62 : a0_7 < 0
                    · rw [if_pos c62] at H
                      have c62b0 : decide (a0_7 < 0) = true := decide_eq_true c62
                      clear c62
                      have H' := Aside0.mk H
                      clear H
                      have hcz63_0 : wc.cell? ⟨gb340, 0, none⟩ = some (.string a0_0) := (blk_cell BK340.out 0).trans rfl
                      have hcz63_1 : wc.cell? ⟨gb340, 1, none⟩ = some (.int .i64 a0_1) := (blk_cell BK340.out 1).trans rfl
                      have hcz63_2 : wc.cell? ⟨gb340, 2, none⟩ = some (.int .i64 a0_2) := (blk_cell BK340.out 2).trans rfl
                      have hcz63_3 : wc.cell? ⟨gb340, 3, none⟩ = some (.slice A0_3 l0_3.length c0_3) := (blk_cell BK340.out 3).trans rfl
                      have hcz63_4 : wc.cell? ⟨gb340, 4, none⟩ = some (.slice A0_4 l0_4.length c0_4) := (blk_cell BK340.out 4).trans rfl
                      have hcz63_5 : wc.cell? ⟨gb340, 5, none⟩ = some (.slice A0_5 l0_5.length c0_5) := (blk_cell BK340.out 5).trans rfl
                      have hcz63_6 : wc.cell? ⟨gb340, 6, none⟩ = some (.string a0_6) := (blk_cell BK340.out 6).trans rfl
                      have hcz63_7 : wc.cell? ⟨gb340, 7, none⟩ = some (.int .i64 a0_7) := (blk_cell BK340.out 7).trans rfl
                      have hcz63_8 : wc.cell? ⟨gb340, 8, none⟩ = some (.int .i64 a0_8) := (blk_cell BK340.out 8).trans rfl
                      have hcz63_9 : wc.cell? ⟨gb340, 9, none⟩ = some (.string a0_9) := (blk_cell BK340.out 9).trans rfl
                      have hfz63_0 := blk_frozen BK340.out 0
                      have hfz63_1 := blk_frozen BK340.out 1
                      have hfz63_2 := blk_frozen BK340.out 2
                      have hfz63_3 := blk_frozen BK340.out 3
                      have hfz63_4 := blk_frozen BK340.out 4
                      have hfz63_5 := blk_frozen BK340.out 5
                      have hfz63_6 := blk_frozen BK340.out 6
                      have hfz63_7 := blk_frozen BK340.out 7
                      have hfz63_8 := blk_frozen BK340.out 8
                      have hfz63_9 := blk_frozen BK340.out 9
                      go_wp2_with (first | ((with_reducible refine gate_callee (f := 23) rfl ?_); refine goesL_ (some 39) rfl rfl Try.func23 (by kernel_rfl) rfl #[.agg #[.string a0_0, .int .i64 a0_1], .int .i64 2] rfl (by (try simp only [List.map_toArray, List.map_cons, List.map_nil]); first | done | rfl | (simp only [List.length_drop, List.length_take]; rfl)) ?_; (with_reducible refine (jobshellref46_snap.calls a0_0 a0_1 2 true _ A40.out).mono ?_); rintro e w64 ⟨rfl, hb⟩; refine ⟨_, rfl, ?_⟩; have n0_ := Aside0.mk (blk_below (g := gb340) (o := .cells #[.string a0_0, .int .i64 a0_1, .int .i64 a0_2, .slice A0_3 l0_3.length c0_3, .slice A0_4 l0_4.length c0_4, .slice A0_5 l0_5.length c0_5, .string a0_6, .int .i64 a0_7, .int .i64 a0_8, .string a0_9] 27 (0, 0)) (by (with_reducible repeat (first | refine blk_drewN ?_ _ | refine blk_drew ?_ | refine blk_alloc ?_ _)); exact BK340.out) hb); have n1_ := Aside0.mk (below_step (by repeat (first | (with_reducible first | exact HB.out | apply below_alloc | apply pw_below_drewN | apply below_drew1 | refine below_set ?_ GE340.out) | exact HB.out)) hb); clear BK340; clear HB; have BK340 := n0_; have HB := n1_; clear n0_ n1_; (try clear hb); (try clear hb2); (try clear hk); (try clear hi); have hcz65_0 : w64.cell? ⟨gb340, 0, none⟩ = some (.string a0_0) := (blk_cell BK340.out 0).trans rfl; have hcz65_1 : w64.cell? ⟨gb340, 1, none⟩ = some (.int .i64 a0_1) := (blk_cell BK340.out 1).trans rfl; have hcz65_2 : w64.cell? ⟨gb340, 2, none⟩ = some (.int .i64 a0_2) := (blk_cell BK340.out 2).trans rfl; have hcz65_3 : w64.cell? ⟨gb340, 3, none⟩ = some (.slice A0_3 l0_3.length c0_3) := (blk_cell BK340.out 3).trans rfl; have hcz65_4 : w64.cell? ⟨gb340, 4, none⟩ = some (.slice A0_4 l0_4.length c0_4) := (blk_cell BK340.out 4).trans rfl; have hcz65_5 : w64.cell? ⟨gb340, 5, none⟩ = some (.slice A0_5 l0_5.length c0_5) := (blk_cell BK340.out 5).trans rfl; have hcz65_6 : w64.cell? ⟨gb340, 6, none⟩ = some (.string a0_6) := (blk_cell BK340.out 6).trans rfl; have hcz65_7 : w64.cell? ⟨gb340, 7, none⟩ = some (.int .i64 a0_7) := (blk_cell BK340.out 7).trans rfl; have hcz65_8 : w64.cell? ⟨gb340, 8, none⟩ = some (.int .i64 a0_8) := (blk_cell BK340.out 8).trans rfl; have hcz65_9 : w64.cell? ⟨gb340, 9, none⟩ = some (.string a0_9) := (blk_cell BK340.out 9).trans rfl; have hfz65_0 := blk_frozen BK340.out 0; have hfz65_1 := blk_frozen BK340.out 1; have hfz65_2 := blk_frozen BK340.out 2; have hfz65_3 := blk_frozen BK340.out 3; have hfz65_4 := blk_frozen BK340.out 4; have hfz65_5 := blk_frozen BK340.out 5; have hfz65_6 := blk_frozen BK340.out 6; have hfz65_7 := blk_frozen BK340.out 7; have hfz65_8 := blk_frozen BK340.out 8; have hfz65_9 := blk_frozen BK340.out 9) | (go_at_call 25; (with_reducible refine (jobshellref46_snaps.calls kj1 _ _ l0_4 2 true _ ?side1 ?side2 A42.out).mono ?_); (case side1 => repeat (first | exact (Kd.C_below HR0_4.out HB.out) | (with_reducible refine Kd.C_alloc ?_ _) | (with_reducible refine Kd.C_drewN ?_ _) | (with_reducible refine Kd.C_drew ?_))); (case side2 => exact HC0_4.out); rintro e w66 ⟨rfl, hb⟩; have n0_ := Aside0.mk (blk_below (g := gb340) (o := .cells #[.string a0_0, .int .i64 a0_1, .int .i64 a0_2, .slice A0_3 l0_3.length c0_3, .slice A0_4 l0_4.length c0_4, .slice A0_5 l0_5.length c0_5, .string a0_6, .int .i64 a0_7, .int .i64 a0_8, .string a0_9] 27 (0, 0)) (by (with_reducible repeat (first | refine blk_drewN ?_ _ | refine blk_drew ?_ | refine blk_alloc ?_ _)); exact BK340.out) hb); have n1_ := Aside0.mk (below_step (by repeat (first | (with_reducible first | exact HB.out | apply below_alloc | apply pw_below_drewN | apply below_drew1 | refine below_set ?_ GE340.out) | exact HB.out)) hb); clear BK340; clear HB; have BK340 := n0_; have HB := n1_; clear n0_ n1_; (try clear hb); (try clear hb2); (try clear hk); (try clear hi); have hcz67_0 : w66.cell? ⟨gb340, 0, none⟩ = some (.string a0_0) := (blk_cell BK340.out 0).trans rfl; have hcz67_1 : w66.cell? ⟨gb340, 1, none⟩ = some (.int .i64 a0_1) := (blk_cell BK340.out 1).trans rfl; have hcz67_2 : w66.cell? ⟨gb340, 2, none⟩ = some (.int .i64 a0_2) := (blk_cell BK340.out 2).trans rfl; have hcz67_3 : w66.cell? ⟨gb340, 3, none⟩ = some (.slice A0_3 l0_3.length c0_3) := (blk_cell BK340.out 3).trans rfl; have hcz67_4 : w66.cell? ⟨gb340, 4, none⟩ = some (.slice A0_4 l0_4.length c0_4) := (blk_cell BK340.out 4).trans rfl; have hcz67_5 : w66.cell? ⟨gb340, 5, none⟩ = some (.slice A0_5 l0_5.length c0_5) := (blk_cell BK340.out 5).trans rfl; have hcz67_6 : w66.cell? ⟨gb340, 6, none⟩ = some (.string a0_6) := (blk_cell BK340.out 6).trans rfl; have hcz67_7 : w66.cell? ⟨gb340, 7, none⟩ = some (.int .i64 a0_7) := (blk_cell BK340.out 7).trans rfl; have hcz67_8 : w66.cell? ⟨gb340, 8, none⟩ = some (.int .i64 a0_8) := (blk_cell BK340.out 8).trans rfl; have hcz67_9 : w66.cell? ⟨gb340, 9, none⟩ = some (.string a0_9) := (blk_cell BK340.out 9).trans rfl; have hfz67_0 := blk_frozen BK340.out 0; have hfz67_1 := blk_frozen BK340.out 1; have hfz67_2 := blk_frozen BK340.out 2; have hfz67_3 := blk_frozen BK340.out 3; have hfz67_4 := blk_frozen BK340.out 4; have hfz67_5 := blk_frozen BK340.out 5; have hfz67_6 := blk_frozen BK340.out 6; have hfz67_7 := blk_frozen BK340.out 7; have hfz67_8 := blk_frozen BK340.out 8; have hfz67_9 := blk_frozen BK340.out 9) | (go_at_call 25; (with_reducible refine (jobshellref46_snaps.calls kj1 _ _ l0_5 2 true _ ?side1 ?side2 A44.out).mono ?_); (case side1 => repeat (first | exact (Kd.C_below HR0_5.out HB.out) | (with_reducible refine Kd.C_alloc ?_ _) | (with_reducible refine Kd.C_drewN ?_ _) | (with_reducible refine Kd.C_drew ?_))); (case side2 => exact HC0_5.out); rintro e w68 ⟨rfl, hb⟩; have n0_ := Aside0.mk (blk_below (g := gb340) (o := .cells #[.string a0_0, .int .i64 a0_1, .int .i64 a0_2, .slice A0_3 l0_3.length c0_3, .slice A0_4 l0_4.length c0_4, .slice A0_5 l0_5.length c0_5, .string a0_6, .int .i64 a0_7, .int .i64 a0_8, .string a0_9] 27 (0, 0)) (by (with_reducible repeat (first | refine blk_drewN ?_ _ | refine blk_drew ?_ | refine blk_alloc ?_ _)); exact BK340.out) hb); have n1_ := Aside0.mk (below_step (by repeat (first | (with_reducible first | exact HB.out | apply below_alloc | apply pw_below_drewN | apply below_drew1 | refine below_set ?_ GE340.out) | exact HB.out)) hb); clear BK340; clear HB; have BK340 := n0_; have HB := n1_; clear n0_ n1_; (try clear hb); (try clear hb2); (try clear hk); (try clear hi); have hcz69_0 : w68.cell? ⟨gb340, 0, none⟩ = some (.string a0_0) := (blk_cell BK340.out 0).trans rfl; have hcz69_1 : w68.cell? ⟨gb340, 1, none⟩ = some (.int .i64 a0_1) := (blk_cell BK340.out 1).trans rfl; have hcz69_2 : w68.cell? ⟨gb340, 2, none⟩ = some (.int .i64 a0_2) := (blk_cell BK340.out 2).trans rfl; have hcz69_3 : w68.cell? ⟨gb340, 3, none⟩ = some (.slice A0_3 l0_3.length c0_3) := (blk_cell BK340.out 3).trans rfl; have hcz69_4 : w68.cell? ⟨gb340, 4, none⟩ = some (.slice A0_4 l0_4.length c0_4) := (blk_cell BK340.out 4).trans rfl; have hcz69_5 : w68.cell? ⟨gb340, 5, none⟩ = some (.slice A0_5 l0_5.length c0_5) := (blk_cell BK340.out 5).trans rfl; have hcz69_6 : w68.cell? ⟨gb340, 6, none⟩ = some (.string a0_6) := (blk_cell BK340.out 6).trans rfl; have hcz69_7 : w68.cell? ⟨gb340, 7, none⟩ = some (.int .i64 a0_7) := (blk_cell BK340.out 7).trans rfl; have hcz69_8 : w68.cell? ⟨gb340, 8, none⟩ = some (.int .i64 a0_8) := (blk_cell BK340.out 8).trans rfl; have hcz69_9 : w68.cell? ⟨gb340, 9, none⟩ = some (.string a0_9) := (blk_cell BK340.out 9).trans rfl; have hfz69_0 := blk_frozen BK340.out 0; have hfz69_1 := blk_frozen BK340.out 1; have hfz69_2 := blk_frozen BK340.out 2; have hfz69_3 := blk_frozen BK340.out 3; have hfz69_4 := blk_frozen BK340.out 4; have hfz69_5 := blk_frozen BK340.out 5; have hfz69_6 := blk_frozen BK340.out 6; have hfz69_7 := blk_frozen BK340.out 7; have hfz69_8 := blk_frozen BK340.out 8; have hfz69_9 := blk_frozen BK340.out 9))
                      go_meet
                      case rel => exact ⟨_, (true), (by first | rfl | (simp; done) | (simp [*]; done)), H', ⟨by have := HJ1.out; first | omega | exact Nat.le_refl _⟩, ⟨by (with_reducible repeat (first | refine blk_drewN ?_ _ | refine blk_drew ?_ | refine blk_alloc ?_ _)); exact BK340.out⟩, ⟨by repeat (first | (with_reducible first | exact HB.out | apply below_alloc | apply pw_below_drewN | apply below_drew1 | refine below_set ?_ GE340.out) | exact HB.out)⟩⟩
                    · rw [if_neg c62] at H
                      have c62b0 : decide (a0_7 < 0) = false := decide_eq_false c62
                      clear c62
                      by_cases c70 : a0_7 > 28
                      · rw [if_pos c70] at H
                        have c70b0 : decide (28 < a0_7) = true := decide_eq_true c70
                        clear c70
                        have H' := Aside0.mk H
                        clear H
                        have hcz71_0 : wc.cell? ⟨gb340, 0, none⟩ = some (.string a0_0) := (blk_cell BK340.out 0).trans rfl
                        have hcz71_1 : wc.cell? ⟨gb340, 1, none⟩ = some (.int .i64 a0_1) := (blk_cell BK340.out 1).trans rfl
                        have hcz71_2 : wc.cell? ⟨gb340, 2, none⟩ = some (.int .i64 a0_2) := (blk_cell BK340.out 2).trans rfl
                        have hcz71_3 : wc.cell? ⟨gb340, 3, none⟩ = some (.slice A0_3 l0_3.length c0_3) := (blk_cell BK340.out 3).trans rfl
                        have hcz71_4 : wc.cell? ⟨gb340, 4, none⟩ = some (.slice A0_4 l0_4.length c0_4) := (blk_cell BK340.out 4).trans rfl
                        have hcz71_5 : wc.cell? ⟨gb340, 5, none⟩ = some (.slice A0_5 l0_5.length c0_5) := (blk_cell BK340.out 5).trans rfl
                        have hcz71_6 : wc.cell? ⟨gb340, 6, none⟩ = some (.string a0_6) := (blk_cell BK340.out 6).trans rfl
                        have hcz71_7 : wc.cell? ⟨gb340, 7, none⟩ = some (.int .i64 a0_7) := (blk_cell BK340.out 7).trans rfl
                        have hcz71_8 : wc.cell? ⟨gb340, 8, none⟩ = some (.int .i64 a0_8) := (blk_cell BK340.out 8).trans rfl
                        have hcz71_9 : wc.cell? ⟨gb340, 9, none⟩ = some (.string a0_9) := (blk_cell BK340.out 9).trans rfl
                        have hfz71_0 := blk_frozen BK340.out 0
                        have hfz71_1 := blk_frozen BK340.out 1
                        have hfz71_2 := blk_frozen BK340.out 2
                        have hfz71_3 := blk_frozen BK340.out 3
                        have hfz71_4 := blk_frozen BK340.out 4
                        have hfz71_5 := blk_frozen BK340.out 5
                        have hfz71_6 := blk_frozen BK340.out 6
                        have hfz71_7 := blk_frozen BK340.out 7
                        have hfz71_8 := blk_frozen BK340.out 8
                        have hfz71_9 := blk_frozen BK340.out 9
                        go_wp2_with (first | ((with_reducible refine gate_callee (f := 23) rfl ?_); refine goesL_ (some 39) rfl rfl Try.func23 (by kernel_rfl) rfl #[.agg #[.string a0_0, .int .i64 a0_1], .int .i64 2] rfl (by (try simp only [List.map_toArray, List.map_cons, List.map_nil]); first | done | rfl | (simp only [List.length_drop, List.length_take]; rfl)) ?_; (with_reducible refine (jobshellref46_snap.calls a0_0 a0_1 2 true _ A40.out).mono ?_); rintro e w72 ⟨rfl, hb⟩; refine ⟨_, rfl, ?_⟩; have n0_ := Aside0.mk (blk_below (g := gb340) (o := .cells #[.string a0_0, .int .i64 a0_1, .int .i64 a0_2, .slice A0_3 l0_3.length c0_3, .slice A0_4 l0_4.length c0_4, .slice A0_5 l0_5.length c0_5, .string a0_6, .int .i64 a0_7, .int .i64 a0_8, .string a0_9] 27 (0, 0)) (by (with_reducible repeat (first | refine blk_drewN ?_ _ | refine blk_drew ?_ | refine blk_alloc ?_ _)); exact BK340.out) hb); have n1_ := Aside0.mk (below_step (by repeat (first | (with_reducible first | exact HB.out | apply below_alloc | apply pw_below_drewN | apply below_drew1 | refine below_set ?_ GE340.out) | exact HB.out)) hb); clear BK340; clear HB; have BK340 := n0_; have HB := n1_; clear n0_ n1_; (try clear hb); (try clear hb2); (try clear hk); (try clear hi); have hcz73_0 : w72.cell? ⟨gb340, 0, none⟩ = some (.string a0_0) := (blk_cell BK340.out 0).trans rfl; have hcz73_1 : w72.cell? ⟨gb340, 1, none⟩ = some (.int .i64 a0_1) := (blk_cell BK340.out 1).trans rfl; have hcz73_2 : w72.cell? ⟨gb340, 2, none⟩ = some (.int .i64 a0_2) := (blk_cell BK340.out 2).trans rfl; have hcz73_3 : w72.cell? ⟨gb340, 3, none⟩ = some (.slice A0_3 l0_3.length c0_3) := (blk_cell BK340.out 3).trans rfl; have hcz73_4 : w72.cell? ⟨gb340, 4, none⟩ = some (.slice A0_4 l0_4.length c0_4) := (blk_cell BK340.out 4).trans rfl; have hcz73_5 : w72.cell? ⟨gb340, 5, none⟩ = some (.slice A0_5 l0_5.length c0_5) := (blk_cell BK340.out 5).trans rfl; have hcz73_6 : w72.cell? ⟨gb340, 6, none⟩ = some (.string a0_6) := (blk_cell BK340.out 6).trans rfl; have hcz73_7 : w72.cell? ⟨gb340, 7, none⟩ = some (.int .i64 a0_7) := (blk_cell BK340.out 7).trans rfl; have hcz73_8 : w72.cell? ⟨gb340, 8, none⟩ = some (.int .i64 a0_8) := (blk_cell BK340.out 8).trans rfl; have hcz73_9 : w72.cell? ⟨gb340, 9, none⟩ = some (.string a0_9) := (blk_cell BK340.out 9).trans rfl; have hfz73_0 := blk_frozen BK340.out 0; have hfz73_1 := blk_frozen BK340.out 1; have hfz73_2 := blk_frozen BK340.out 2; have hfz73_3 := blk_frozen BK340.out 3; have hfz73_4 := blk_frozen BK340.out 4; have hfz73_5 := blk_frozen BK340.out 5; have hfz73_6 := blk_frozen BK340.out 6; have hfz73_7 := blk_frozen BK340.out 7; have hfz73_8 := blk_frozen BK340.out 8; have hfz73_9 := blk_frozen BK340.out 9) | (go_at_call 25; (with_reducible refine (jobshellref46_snaps.calls kj1 _ _ l0_4 2 true _ ?side1 ?side2 A42.out).mono ?_); (case side1 => repeat (first | exact (Kd.C_below HR0_4.out HB.out) | (with_reducible refine Kd.C_alloc ?_ _) | (with_reducible refine Kd.C_drewN ?_ _) | (with_reducible refine Kd.C_drew ?_))); (case side2 => exact HC0_4.out); rintro e w74 ⟨rfl, hb⟩; have n0_ := Aside0.mk (blk_below (g := gb340) (o := .cells #[.string a0_0, .int .i64 a0_1, .int .i64 a0_2, .slice A0_3 l0_3.length c0_3, .slice A0_4 l0_4.length c0_4, .slice A0_5 l0_5.length c0_5, .string a0_6, .int .i64 a0_7, .int .i64 a0_8, .string a0_9] 27 (0, 0)) (by (with_reducible repeat (first | refine blk_drewN ?_ _ | refine blk_drew ?_ | refine blk_alloc ?_ _)); exact BK340.out) hb); have n1_ := Aside0.mk (below_step (by repeat (first | (with_reducible first | exact HB.out | apply below_alloc | apply pw_below_drewN | apply below_drew1 | refine below_set ?_ GE340.out) | exact HB.out)) hb); clear BK340; clear HB; have BK340 := n0_; have HB := n1_; clear n0_ n1_; (try clear hb); (try clear hb2); (try clear hk); (try clear hi); have hcz75_0 : w74.cell? ⟨gb340, 0, none⟩ = some (.string a0_0) := (blk_cell BK340.out 0).trans rfl; have hcz75_1 : w74.cell? ⟨gb340, 1, none⟩ = some (.int .i64 a0_1) := (blk_cell BK340.out 1).trans rfl; have hcz75_2 : w74.cell? ⟨gb340, 2, none⟩ = some (.int .i64 a0_2) := (blk_cell BK340.out 2).trans rfl; have hcz75_3 : w74.cell? ⟨gb340, 3, none⟩ = some (.slice A0_3 l0_3.length c0_3) := (blk_cell BK340.out 3).trans rfl; have hcz75_4 : w74.cell? ⟨gb340, 4, none⟩ = some (.slice A0_4 l0_4.length c0_4) := (blk_cell BK340.out 4).trans rfl; have hcz75_5 : w74.cell? ⟨gb340, 5, none⟩ = some (.slice A0_5 l0_5.length c0_5) := (blk_cell BK340.out 5).trans rfl; have hcz75_6 : w74.cell? ⟨gb340, 6, none⟩ = some (.string a0_6) := (blk_cell BK340.out 6).trans rfl; have hcz75_7 : w74.cell? ⟨gb340, 7, none⟩ = some (.int .i64 a0_7) := (blk_cell BK340.out 7).trans rfl; have hcz75_8 : w74.cell? ⟨gb340, 8, none⟩ = some (.int .i64 a0_8) := (blk_cell BK340.out 8).trans rfl; have hcz75_9 : w74.cell? ⟨gb340, 9, none⟩ = some (.string a0_9) := (blk_cell BK340.out 9).trans rfl; have hfz75_0 := blk_frozen BK340.out 0; have hfz75_1 := blk_frozen BK340.out 1; have hfz75_2 := blk_frozen BK340.out 2; have hfz75_3 := blk_frozen BK340.out 3; have hfz75_4 := blk_frozen BK340.out 4; have hfz75_5 := blk_frozen BK340.out 5; have hfz75_6 := blk_frozen BK340.out 6; have hfz75_7 := blk_frozen BK340.out 7; have hfz75_8 := blk_frozen BK340.out 8; have hfz75_9 := blk_frozen BK340.out 9) | (go_at_call 25; (with_reducible refine (jobshellref46_snaps.calls kj1 _ _ l0_5 2 true _ ?side1 ?side2 A44.out).mono ?_); (case side1 => repeat (first | exact (Kd.C_below HR0_5.out HB.out) | (with_reducible refine Kd.C_alloc ?_ _) | (with_reducible refine Kd.C_drewN ?_ _) | (with_reducible refine Kd.C_drew ?_))); (case side2 => exact HC0_5.out); rintro e w76 ⟨rfl, hb⟩; have n0_ := Aside0.mk (blk_below (g := gb340) (o := .cells #[.string a0_0, .int .i64 a0_1, .int .i64 a0_2, .slice A0_3 l0_3.length c0_3, .slice A0_4 l0_4.length c0_4, .slice A0_5 l0_5.length c0_5, .string a0_6, .int .i64 a0_7, .int .i64 a0_8, .string a0_9] 27 (0, 0)) (by (with_reducible repeat (first | refine blk_drewN ?_ _ | refine blk_drew ?_ | refine blk_alloc ?_ _)); exact BK340.out) hb); have n1_ := Aside0.mk (below_step (by repeat (first | (with_reducible first | exact HB.out | apply below_alloc | apply pw_below_drewN | apply below_drew1 | refine below_set ?_ GE340.out) | exact HB.out)) hb); clear BK340; clear HB; have BK340 := n0_; have HB := n1_; clear n0_ n1_; (try clear hb); (try clear hb2); (try clear hk); (try clear hi); have hcz77_0 : w76.cell? ⟨gb340, 0, none⟩ = some (.string a0_0) := (blk_cell BK340.out 0).trans rfl; have hcz77_1 : w76.cell? ⟨gb340, 1, none⟩ = some (.int .i64 a0_1) := (blk_cell BK340.out 1).trans rfl; have hcz77_2 : w76.cell? ⟨gb340, 2, none⟩ = some (.int .i64 a0_2) := (blk_cell BK340.out 2).trans rfl; have hcz77_3 : w76.cell? ⟨gb340, 3, none⟩ = some (.slice A0_3 l0_3.length c0_3) := (blk_cell BK340.out 3).trans rfl; have hcz77_4 : w76.cell? ⟨gb340, 4, none⟩ = some (.slice A0_4 l0_4.length c0_4) := (blk_cell BK340.out 4).trans rfl; have hcz77_5 : w76.cell? ⟨gb340, 5, none⟩ = some (.slice A0_5 l0_5.length c0_5) := (blk_cell BK340.out 5).trans rfl; have hcz77_6 : w76.cell? ⟨gb340, 6, none⟩ = some (.string a0_6) := (blk_cell BK340.out 6).trans rfl; have hcz77_7 : w76.cell? ⟨gb340, 7, none⟩ = some (.int .i64 a0_7) := (blk_cell BK340.out 7).trans rfl; have hcz77_8 : w76.cell? ⟨gb340, 8, none⟩ = some (.int .i64 a0_8) := (blk_cell BK340.out 8).trans rfl; have hcz77_9 : w76.cell? ⟨gb340, 9, none⟩ = some (.string a0_9) := (blk_cell BK340.out 9).trans rfl; have hfz77_0 := blk_frozen BK340.out 0; have hfz77_1 := blk_frozen BK340.out 1; have hfz77_2 := blk_frozen BK340.out 2; have hfz77_3 := blk_frozen BK340.out 3; have hfz77_4 := blk_frozen BK340.out 4; have hfz77_5 := blk_frozen BK340.out 5; have hfz77_6 := blk_frozen BK340.out 6; have hfz77_7 := blk_frozen BK340.out 7; have hfz77_8 := blk_frozen BK340.out 8; have hfz77_9 := blk_frozen BK340.out 9))
                        go_meet
                        case rel => exact ⟨_, (true), (by first | rfl | (simp; done) | (simp [*]; done)), H', ⟨by have := HJ1.out; first | omega | exact Nat.le_refl _⟩, ⟨by (with_reducible repeat (first | refine blk_drewN ?_ _ | refine blk_drew ?_ | refine blk_alloc ?_ _)); exact BK340.out⟩, ⟨by repeat (first | (with_reducible first | exact HB.out | apply below_alloc | apply pw_below_drewN | apply below_drew1 | refine below_set ?_ GE340.out) | exact HB.out)⟩⟩
                      · rw [if_neg c70] at H
                        have c70b0 : decide (28 < a0_7) = false := decide_eq_false c70
                        clear c70
                        by_cases c78 : a0_8 < 0
                        · rw [if_pos c78] at H
                          have c78b0 : decide (a0_8 < 0) = true := decide_eq_true c78
                          clear c78
                          have H' := Aside0.mk H
                          clear H
                          have hcz79_0 : wc.cell? ⟨gb340, 0, none⟩ = some (.string a0_0) := (blk_cell BK340.out 0).trans rfl
                          have hcz79_1 : wc.cell? ⟨gb340, 1, none⟩ = some (.int .i64 a0_1) := (blk_cell BK340.out 1).trans rfl
                          have hcz79_2 : wc.cell? ⟨gb340, 2, none⟩ = some (.int .i64 a0_2) := (blk_cell BK340.out 2).trans rfl
                          have hcz79_3 : wc.cell? ⟨gb340, 3, none⟩ = some (.slice A0_3 l0_3.length c0_3) := (blk_cell BK340.out 3).trans rfl
                          have hcz79_4 : wc.cell? ⟨gb340, 4, none⟩ = some (.slice A0_4 l0_4.length c0_4) := (blk_cell BK340.out 4).trans rfl
                          have hcz79_5 : wc.cell? ⟨gb340, 5, none⟩ = some (.slice A0_5 l0_5.length c0_5) := (blk_cell BK340.out 5).trans rfl
                          have hcz79_6 : wc.cell? ⟨gb340, 6, none⟩ = some (.string a0_6) := (blk_cell BK340.out 6).trans rfl
                          have hcz79_7 : wc.cell? ⟨gb340, 7, none⟩ = some (.int .i64 a0_7) := (blk_cell BK340.out 7).trans rfl
                          have hcz79_8 : wc.cell? ⟨gb340, 8, none⟩ = some (.int .i64 a0_8) := (blk_cell BK340.out 8).trans rfl
                          have hcz79_9 : wc.cell? ⟨gb340, 9, none⟩ = some (.string a0_9) := (blk_cell BK340.out 9).trans rfl
                          have hfz79_0 := blk_frozen BK340.out 0
                          have hfz79_1 := blk_frozen BK340.out 1
                          have hfz79_2 := blk_frozen BK340.out 2
                          have hfz79_3 := blk_frozen BK340.out 3
                          have hfz79_4 := blk_frozen BK340.out 4
                          have hfz79_5 := blk_frozen BK340.out 5
                          have hfz79_6 := blk_frozen BK340.out 6
                          have hfz79_7 := blk_frozen BK340.out 7
                          have hfz79_8 := blk_frozen BK340.out 8
                          have hfz79_9 := blk_frozen BK340.out 9
                          go_wp2_with (first | ((with_reducible refine gate_callee (f := 23) rfl ?_); refine goesL_ (some 39) rfl rfl Try.func23 (by kernel_rfl) rfl #[.agg #[.string a0_0, .int .i64 a0_1], .int .i64 2] rfl (by (try simp only [List.map_toArray, List.map_cons, List.map_nil]); first | done | rfl | (simp only [List.length_drop, List.length_take]; rfl)) ?_; (with_reducible refine (jobshellref46_snap.calls a0_0 a0_1 2 true _ A40.out).mono ?_); rintro e w80 ⟨rfl, hb⟩; refine ⟨_, rfl, ?_⟩; have n0_ := Aside0.mk (blk_below (g := gb340) (o := .cells #[.string a0_0, .int .i64 a0_1, .int .i64 a0_2, .slice A0_3 l0_3.length c0_3, .slice A0_4 l0_4.length c0_4, .slice A0_5 l0_5.length c0_5, .string a0_6, .int .i64 a0_7, .int .i64 a0_8, .string a0_9] 27 (0, 0)) (by (with_reducible repeat (first | refine blk_drewN ?_ _ | refine blk_drew ?_ | refine blk_alloc ?_ _)); exact BK340.out) hb); have n1_ := Aside0.mk (below_step (by repeat (first | (with_reducible first | exact HB.out | apply below_alloc | apply pw_below_drewN | apply below_drew1 | refine below_set ?_ GE340.out) | exact HB.out)) hb); clear BK340; clear HB; have BK340 := n0_; have HB := n1_; clear n0_ n1_; (try clear hb); (try clear hb2); (try clear hk); (try clear hi); have hcz81_0 : w80.cell? ⟨gb340, 0, none⟩ = some (.string a0_0) := (blk_cell BK340.out 0).trans rfl; have hcz81_1 : w80.cell? ⟨gb340, 1, none⟩ = some (.int .i64 a0_1) := (blk_cell BK340.out 1).trans rfl; have hcz81_2 : w80.cell? ⟨gb340, 2, none⟩ = some (.int .i64 a0_2) := (blk_cell BK340.out 2).trans rfl; have hcz81_3 : w80.cell? ⟨gb340, 3, none⟩ = some (.slice A0_3 l0_3.length c0_3) := (blk_cell BK340.out 3).trans rfl; have hcz81_4 : w80.cell? ⟨gb340, 4, none⟩ = some (.slice A0_4 l0_4.length c0_4) := (blk_cell BK340.out 4).trans rfl; have hcz81_5 : w80.cell? ⟨gb340, 5, none⟩ = some (.slice A0_5 l0_5.length c0_5) := (blk_cell BK340.out 5).trans rfl; have hcz81_6 : w80.cell? ⟨gb340, 6, none⟩ = some (.string a0_6) := (blk_cell BK340.out 6).trans rfl; have hcz81_7 : w80.cell? ⟨gb340, 7, none⟩ = some (.int .i64 a0_7) := (blk_cell BK340.out 7).trans rfl; have hcz81_8 : w80.cell? ⟨gb340, 8, none⟩ = some (.int .i64 a0_8) := (blk_cell BK340.out 8).trans rfl; have hcz81_9 : w80.cell? ⟨gb340, 9, none⟩ = some (.string a0_9) := (blk_cell BK340.out 9).trans rfl; have hfz81_0 := blk_frozen BK340.out 0; have hfz81_1 := blk_frozen BK340.out 1; have hfz81_2 := blk_frozen BK340.out 2; have hfz81_3 := blk_frozen BK340.out 3; have hfz81_4 := blk_frozen BK340.out 4; have hfz81_5 := blk_frozen BK340.out 5; have hfz81_6 := blk_frozen BK340.out 6; have hfz81_7 := blk_frozen BK340.out 7; have hfz81_8 := blk_frozen BK340.out 8; have hfz81_9 := blk_frozen BK340.out 9) | (go_at_call 25; (with_reducible refine (jobshellref46_snaps.calls kj1 _ _ l0_4 2 true _ ?side1 ?side2 A42.out).mono ?_); (case side1 => repeat (first | exact (Kd.C_below HR0_4.out HB.out) | (with_reducible refine Kd.C_alloc ?_ _) | (with_reducible refine Kd.C_drewN ?_ _) | (with_reducible refine Kd.C_drew ?_))); (case side2 => exact HC0_4.out); rintro e w82 ⟨rfl, hb⟩; have n0_ := Aside0.mk (blk_below (g := gb340) (o := .cells #[.string a0_0, .int .i64 a0_1, .int .i64 a0_2, .slice A0_3 l0_3.length c0_3, .slice A0_4 l0_4.length c0_4, .slice A0_5 l0_5.length c0_5, .string a0_6, .int .i64 a0_7, .int .i64 a0_8, .string a0_9] 27 (0, 0)) (by (with_reducible repeat (first | refine blk_drewN ?_ _ | refine blk_drew ?_ | refine blk_alloc ?_ _)); exact BK340.out) hb); have n1_ := Aside0.mk (below_step (by repeat (first | (with_reducible first | exact HB.out | apply below_alloc | apply pw_below_drewN | apply below_drew1 | refine below_set ?_ GE340.out) | exact HB.out)) hb); clear BK340; clear HB; have BK340 := n0_; have HB := n1_; clear n0_ n1_; (try clear hb); (try clear hb2); (try clear hk); (try clear hi); have hcz83_0 : w82.cell? ⟨gb340, 0, none⟩ = some (.string a0_0) := (blk_cell BK340.out 0).trans rfl; have hcz83_1 : w82.cell? ⟨gb340, 1, none⟩ = some (.int .i64 a0_1) := (blk_cell BK340.out 1).trans rfl; have hcz83_2 : w82.cell? ⟨gb340, 2, none⟩ = some (.int .i64 a0_2) := (blk_cell BK340.out 2).trans rfl; have hcz83_3 : w82.cell? ⟨gb340, 3, none⟩ = some (.slice A0_3 l0_3.length c0_3) := (blk_cell BK340.out 3).trans rfl; have hcz83_4 : w82.cell? ⟨gb340, 4, none⟩ = some (.slice A0_4 l0_4.length c0_4) := (blk_cell BK340.out 4).trans rfl; have hcz83_5 : w82.cell? ⟨gb340, 5, none⟩ = some (.slice A0_5 l0_5.length c0_5) := (blk_cell BK340.out 5).trans rfl; have hcz83_6 : w82.cell? ⟨gb340, 6, none⟩ = some (.string a0_6) := (blk_cell BK340.out 6).trans rfl; have hcz83_7 : w82.cell? ⟨gb340, 7, none⟩ = some (.int .i64 a0_7) := (blk_cell BK340.out 7).trans rfl; have hcz83_8 : w82.cell? ⟨gb340, 8, none⟩ = some (.int .i64 a0_8) := (blk_cell BK340.out 8).trans rfl; have hcz83_9 : w82.cell? ⟨gb340, 9, none⟩ = some (.string a0_9) := (blk_cell BK340.out 9).trans rfl; have hfz83_0 := blk_frozen BK340.out 0; have hfz83_1 := blk_frozen BK340.out 1; have hfz83_2 := blk_frozen BK340.out 2; have hfz83_3 := blk_frozen BK340.out 3; have hfz83_4 := blk_frozen BK340.out 4; have hfz83_5 := blk_frozen BK340.out 5; have hfz83_6 := blk_frozen BK340.out 6; have hfz83_7 := blk_frozen BK340.out 7; have hfz83_8 := blk_frozen BK340.out 8; have hfz83_9 := blk_frozen BK340.out 9) | (go_at_call 25; (with_reducible refine (jobshellref46_snaps.calls kj1 _ _ l0_5 2 true _ ?side1 ?side2 A44.out).mono ?_); (case side1 => repeat (first | exact (Kd.C_below HR0_5.out HB.out) | (with_reducible refine Kd.C_alloc ?_ _) | (with_reducible refine Kd.C_drewN ?_ _) | (with_reducible refine Kd.C_drew ?_))); (case side2 => exact HC0_5.out); rintro e w84 ⟨rfl, hb⟩; have n0_ := Aside0.mk (blk_below (g := gb340) (o := .cells #[.string a0_0, .int .i64 a0_1, .int .i64 a0_2, .slice A0_3 l0_3.length c0_3, .slice A0_4 l0_4.length c0_4, .slice A0_5 l0_5.length c0_5, .string a0_6, .int .i64 a0_7, .int .i64 a0_8, .string a0_9] 27 (0, 0)) (by (with_reducible repeat (first | refine blk_drewN ?_ _ | refine blk_drew ?_ | refine blk_alloc ?_ _)); exact BK340.out) hb); have n1_ := Aside0.mk (below_step (by repeat (first | (with_reducible first | exact HB.out | apply below_alloc | apply pw_below_drewN | apply below_drew1 | refine below_set ?_ GE340.out) | exact HB.out)) hb); clear BK340; clear HB; have BK340 := n0_; have HB := n1_; clear n0_ n1_; (try clear hb); (try clear hb2); (try clear hk); (try clear hi); have hcz85_0 : w84.cell? ⟨gb340, 0, none⟩ = some (.string a0_0) := (blk_cell BK340.out 0).trans rfl; have hcz85_1 : w84.cell? ⟨gb340, 1, none⟩ = some (.int .i64 a0_1) := (blk_cell BK340.out 1).trans rfl; have hcz85_2 : w84.cell? ⟨gb340, 2, none⟩ = some (.int .i64 a0_2) := (blk_cell BK340.out 2).trans rfl; have hcz85_3 : w84.cell? ⟨gb340, 3, none⟩ = some (.slice A0_3 l0_3.length c0_3) := (blk_cell BK340.out 3).trans rfl; have hcz85_4 : w84.cell? ⟨gb340, 4, none⟩ = some (.slice A0_4 l0_4.length c0_4) := (blk_cell BK340.out 4).trans rfl; have hcz85_5 : w84.cell? ⟨gb340, 5, none⟩ = some (.slice A0_5 l0_5.length c0_5) := (blk_cell BK340.out 5).trans rfl; have hcz85_6 : w84.cell? ⟨gb340, 6, none⟩ = some (.string a0_6) := (blk_cell BK340.out 6).trans rfl; have hcz85_7 : w84.cell? ⟨gb340, 7, none⟩ = some (.int .i64 a0_7) := (blk_cell BK340.out 7).trans rfl; have hcz85_8 : w84.cell? ⟨gb340, 8, none⟩ = some (.int .i64 a0_8) := (blk_cell BK340.out 8).trans rfl; have hcz85_9 : w84.cell? ⟨gb340, 9, none⟩ = some (.string a0_9) := (blk_cell BK340.out 9).trans rfl; have hfz85_0 := blk_frozen BK340.out 0; have hfz85_1 := blk_frozen BK340.out 1; have hfz85_2 := blk_frozen BK340.out 2; have hfz85_3 := blk_frozen BK340.out 3; have hfz85_4 := blk_frozen BK340.out 4; have hfz85_5 := blk_frozen BK340.out 5; have hfz85_6 := blk_frozen BK340.out 6; have hfz85_7 := blk_frozen BK340.out 7; have hfz85_8 := blk_frozen BK340.out 8; have hfz85_9 := blk_frozen BK340.out 9))
                          go_meet
                          case rel => exact ⟨_, (true), (by first | rfl | (simp; done) | (simp [*]; done)), H', ⟨by have := HJ1.out; first | omega | exact Nat.le_refl _⟩, ⟨by (with_reducible repeat (first | refine blk_drewN ?_ _ | refine blk_drew ?_ | refine blk_alloc ?_ _)); exact BK340.out⟩, ⟨by repeat (first | (with_reducible first | exact HB.out | apply below_alloc | apply pw_below_drewN | apply below_drew1 | refine below_set ?_ GE340.out) | exact HB.out)⟩⟩
                        · rw [if_neg c78] at H
                          have c78b0 : decide (a0_8 < 0) = false := decide_eq_false c78
                          clear c78
                          have H' := Aside0.mk H
                          clear H
                          have hcz86_0 : wc.cell? ⟨gb340, 0, none⟩ = some (.string a0_0) := (blk_cell BK340.out 0).trans rfl
                          have hcz86_1 : wc.cell? ⟨gb340, 1, none⟩ = some (.int .i64 a0_1) := (blk_cell BK340.out 1).trans rfl
                          have hcz86_2 : wc.cell? ⟨gb340, 2, none⟩ = some (.int .i64 a0_2) := (blk_cell BK340.out 2).trans rfl
                          have hcz86_3 : wc.cell? ⟨gb340, 3, none⟩ = some (.slice A0_3 l0_3.length c0_3) := (blk_cell BK340.out 3).trans rfl
                          have hcz86_4 : wc.cell? ⟨gb340, 4, none⟩ = some (.slice A0_4 l0_4.length c0_4) := (blk_cell BK340.out 4).trans rfl
                          have hcz86_5 : wc.cell? ⟨gb340, 5, none⟩ = some (.slice A0_5 l0_5.length c0_5) := (blk_cell BK340.out 5).trans rfl
                          have hcz86_6 : wc.cell? ⟨gb340, 6, none⟩ = some (.string a0_6) := (blk_cell BK340.out 6).trans rfl
                          have hcz86_7 : wc.cell? ⟨gb340, 7, none⟩ = some (.int .i64 a0_7) := (blk_cell BK340.out 7).trans rfl
                          have hcz86_8 : wc.cell? ⟨gb340, 8, none⟩ = some (.int .i64 a0_8) := (blk_cell BK340.out 8).trans rfl
                          have hcz86_9 : wc.cell? ⟨gb340, 9, none⟩ = some (.string a0_9) := (blk_cell BK340.out 9).trans rfl
                          have hfz86_0 := blk_frozen BK340.out 0
                          have hfz86_1 := blk_frozen BK340.out 1
                          have hfz86_2 := blk_frozen BK340.out 2
                          have hfz86_3 := blk_frozen BK340.out 3
                          have hfz86_4 := blk_frozen BK340.out 4
                          have hfz86_5 := blk_frozen BK340.out 5
                          have hfz86_6 := blk_frozen BK340.out 6
                          have hfz86_7 := blk_frozen BK340.out 7
                          have hfz86_8 := blk_frozen BK340.out 8
                          have hfz86_9 := blk_frozen BK340.out 9
                          go_wp2_with (first | ((with_reducible refine gate_callee (f := 23) rfl ?_); refine goesL_ (some 39) rfl rfl Try.func23 (by kernel_rfl) rfl #[.agg #[.string a0_0, .int .i64 a0_1], .int .i64 2] rfl (by (try simp only [List.map_toArray, List.map_cons, List.map_nil]); first | done | rfl | (simp only [List.length_drop, List.length_take]; rfl)) ?_; (with_reducible refine (jobshellref46_snap.calls a0_0 a0_1 2 true _ A40.out).mono ?_); rintro e w87 ⟨rfl, hb⟩; refine ⟨_, rfl, ?_⟩; have n0_ := Aside0.mk (blk_below (g := gb340) (o := .cells #[.string a0_0, .int .i64 a0_1, .int .i64 a0_2, .slice A0_3 l0_3.length c0_3, .slice A0_4 l0_4.length c0_4, .slice A0_5 l0_5.length c0_5, .string a0_6, .int .i64 a0_7, .int .i64 a0_8, .string a0_9] 27 (0, 0)) (by (with_reducible repeat (first | refine blk_drewN ?_ _ | refine blk_drew ?_ | refine blk_alloc ?_ _)); exact BK340.out) hb); have n1_ := Aside0.mk (below_step (by repeat (first | (with_reducible first | exact HB.out | apply below_alloc | apply pw_below_drewN | apply below_drew1 | refine below_set ?_ GE340.out) | exact HB.out)) hb); clear BK340; clear HB; have BK340 := n0_; have HB := n1_; clear n0_ n1_; (try clear hb); (try clear hb2); (try clear hk); (try clear hi); have hcz88_0 : w87.cell? ⟨gb340, 0, none⟩ = some (.string a0_0) := (blk_cell BK340.out 0).trans rfl; have hcz88_1 : w87.cell? ⟨gb340, 1, none⟩ = some (.int .i64 a0_1) := (blk_cell BK340.out 1).trans rfl; have hcz88_2 : w87.cell? ⟨gb340, 2, none⟩ = some (.int .i64 a0_2) := (blk_cell BK340.out 2).trans rfl; have hcz88_3 : w87.cell? ⟨gb340, 3, none⟩ = some (.slice A0_3 l0_3.length c0_3) := (blk_cell BK340.out 3).trans rfl; have hcz88_4 : w87.cell? ⟨gb340, 4, none⟩ = some (.slice A0_4 l0_4.length c0_4) := (blk_cell BK340.out 4).trans rfl; have hcz88_5 : w87.cell? ⟨gb340, 5, none⟩ = some (.slice A0_5 l0_5.length c0_5) := (blk_cell BK340.out 5).trans rfl; have hcz88_6 : w87.cell? ⟨gb340, 6, none⟩ = some (.string a0_6) := (blk_cell BK340.out 6).trans rfl; have hcz88_7 : w87.cell? ⟨gb340, 7, none⟩ = some (.int .i64 a0_7) := (blk_cell BK340.out 7).trans rfl; have hcz88_8 : w87.cell? ⟨gb340, 8, none⟩ = some (.int .i64 a0_8) := (blk_cell BK340.out 8).trans rfl; have hcz88_9 : w87.cell? ⟨gb340, 9, none⟩ = some (.string a0_9) := (blk_cell BK340.out 9).trans rfl; have hfz88_0 := blk_frozen BK340.out 0; have hfz88_1 := blk_frozen BK340.out 1; have hfz88_2 := blk_frozen BK340.out 2; have hfz88_3 := blk_frozen BK340.out 3; have hfz88_4 := blk_frozen BK340.out 4; have hfz88_5 := blk_frozen BK340.out 5; have hfz88_6 := blk_frozen BK340.out 6; have hfz88_7 := blk_frozen BK340.out 7; have hfz88_8 := blk_frozen BK340.out 8; have hfz88_9 := blk_frozen BK340.out 9) | (go_at_call 25; (with_reducible refine (jobshellref46_snaps.calls kj1 _ _ l0_4 2 true _ ?side1 ?side2 A42.out).mono ?_); (case side1 => repeat (first | exact (Kd.C_below HR0_4.out HB.out) | (with_reducible refine Kd.C_alloc ?_ _) | (with_reducible refine Kd.C_drewN ?_ _) | (with_reducible refine Kd.C_drew ?_))); (case side2 => exact HC0_4.out); rintro e w89 ⟨rfl, hb⟩; have n0_ := Aside0.mk (blk_below (g := gb340) (o := .cells #[.string a0_0, .int .i64 a0_1, .int .i64 a0_2, .slice A0_3 l0_3.length c0_3, .slice A0_4 l0_4.length c0_4, .slice A0_5 l0_5.length c0_5, .string a0_6, .int .i64 a0_7, .int .i64 a0_8, .string a0_9] 27 (0, 0)) (by (with_reducible repeat (first | refine blk_drewN ?_ _ | refine blk_drew ?_ | refine blk_alloc ?_ _)); exact BK340.out) hb); have n1_ := Aside0.mk (below_step (by repeat (first | (with_reducible first | exact HB.out | apply below_alloc | apply pw_below_drewN | apply below_drew1 | refine below_set ?_ GE340.out) | exact HB.out)) hb); clear BK340; clear HB; have BK340 := n0_; have HB := n1_; clear n0_ n1_; (try clear hb); (try clear hb2); (try clear hk); (try clear hi); have hcz90_0 : w89.cell? ⟨gb340, 0, none⟩ = some (.string a0_0) := (blk_cell BK340.out 0).trans rfl; have hcz90_1 : w89.cell? ⟨gb340, 1, none⟩ = some (.int .i64 a0_1) := (blk_cell BK340.out 1).trans rfl; have hcz90_2 : w89.cell? ⟨gb340, 2, none⟩ = some (.int .i64 a0_2) := (blk_cell BK340.out 2).trans rfl; have hcz90_3 : w89.cell? ⟨gb340, 3, none⟩ = some (.slice A0_3 l0_3.length c0_3) := (blk_cell BK340.out 3).trans rfl; have hcz90_4 : w89.cell? ⟨gb340, 4, none⟩ = some (.slice A0_4 l0_4.length c0_4) := (blk_cell BK340.out 4).trans rfl; have hcz90_5 : w89.cell? ⟨gb340, 5, none⟩ = some (.slice A0_5 l0_5.length c0_5) := (blk_cell BK340.out 5).trans rfl; have hcz90_6 : w89.cell? ⟨gb340, 6, none⟩ = some (.string a0_6) := (blk_cell BK340.out 6).trans rfl; have hcz90_7 : w89.cell? ⟨gb340, 7, none⟩ = some (.int .i64 a0_7) := (blk_cell BK340.out 7).trans rfl; have hcz90_8 : w89.cell? ⟨gb340, 8, none⟩ = some (.int .i64 a0_8) := (blk_cell BK340.out 8).trans rfl; have hcz90_9 : w89.cell? ⟨gb340, 9, none⟩ = some (.string a0_9) := (blk_cell BK340.out 9).trans rfl; have hfz90_0 := blk_frozen BK340.out 0; have hfz90_1 := blk_frozen BK340.out 1; have hfz90_2 := blk_frozen BK340.out 2; have hfz90_3 := blk_frozen BK340.out 3; have hfz90_4 := blk_frozen BK340.out 4; have hfz90_5 := blk_frozen BK340.out 5; have hfz90_6 := blk_frozen BK340.out 6; have hfz90_7 := blk_frozen BK340.out 7; have hfz90_8 := blk_frozen BK340.out 8; have hfz90_9 := blk_frozen BK340.out 9) | (go_at_call 25; (with_reducible refine (jobshellref46_snaps.calls kj1 _ _ l0_5 2 true _ ?side1 ?side2 A44.out).mono ?_); (case side1 => repeat (first | exact (Kd.C_below HR0_5.out HB.out) | (with_reducible refine Kd.C_alloc ?_ _) | (with_reducible refine Kd.C_drewN ?_ _) | (with_reducible refine Kd.C_drew ?_))); (case side2 => exact HC0_5.out); rintro e w91 ⟨rfl, hb⟩; have n0_ := Aside0.mk (blk_below (g := gb340) (o := .cells #[.string a0_0, .int .i64 a0_1, .int .i64 a0_2, .slice A0_3 l0_3.length c0_3, .slice A0_4 l0_4.length c0_4, .slice A0_5 l0_5.length c0_5, .string a0_6, .int .i64 a0_7, .int .i64 a0_8, .string a0_9] 27 (0, 0)) (by (with_reducible repeat (first | refine blk_drewN ?_ _ | refine blk_drew ?_ | refine blk_alloc ?_ _)); exact BK340.out) hb); have n1_ := Aside0.mk (below_step (by repeat (first | (with_reducible first | exact HB.out | apply below_alloc | apply pw_below_drewN | apply below_drew1 | refine below_set ?_ GE340.out) | exact HB.out)) hb); clear BK340; clear HB; have BK340 := n0_; have HB := n1_; clear n0_ n1_; (try clear hb); (try clear hb2); (try clear hk); (try clear hi); have hcz92_0 : w91.cell? ⟨gb340, 0, none⟩ = some (.string a0_0) := (blk_cell BK340.out 0).trans rfl; have hcz92_1 : w91.cell? ⟨gb340, 1, none⟩ = some (.int .i64 a0_1) := (blk_cell BK340.out 1).trans rfl; have hcz92_2 : w91.cell? ⟨gb340, 2, none⟩ = some (.int .i64 a0_2) := (blk_cell BK340.out 2).trans rfl; have hcz92_3 : w91.cell? ⟨gb340, 3, none⟩ = some (.slice A0_3 l0_3.length c0_3) := (blk_cell BK340.out 3).trans rfl; have hcz92_4 : w91.cell? ⟨gb340, 4, none⟩ = some (.slice A0_4 l0_4.length c0_4) := (blk_cell BK340.out 4).trans rfl; have hcz92_5 : w91.cell? ⟨gb340, 5, none⟩ = some (.slice A0_5 l0_5.length c0_5) := (blk_cell BK340.out 5).trans rfl; have hcz92_6 : w91.cell? ⟨gb340, 6, none⟩ = some (.string a0_6) := (blk_cell BK340.out 6).trans rfl; have hcz92_7 : w91.cell? ⟨gb340, 7, none⟩ = some (.int .i64 a0_7) := (blk_cell BK340.out 7).trans rfl; have hcz92_8 : w91.cell? ⟨gb340, 8, none⟩ = some (.int .i64 a0_8) := (blk_cell BK340.out 8).trans rfl; have hcz92_9 : w91.cell? ⟨gb340, 9, none⟩ = some (.string a0_9) := (blk_cell BK340.out 9).trans rfl; have hfz92_0 := blk_frozen BK340.out 0; have hfz92_1 := blk_frozen BK340.out 1; have hfz92_2 := blk_frozen BK340.out 2; have hfz92_3 := blk_frozen BK340.out 3; have hfz92_4 := blk_frozen BK340.out 4; have hfz92_5 := blk_frozen BK340.out 5; have hfz92_6 := blk_frozen BK340.out 6; have hfz92_7 := blk_frozen BK340.out 7; have hfz92_8 := blk_frozen BK340.out 8; have hfz92_9 := blk_frozen BK340.out 9))
                          go_meet
                          case rel => exact ⟨_, (decide (a0_8 > 128)), (by first | rfl | (simp; done) | (simp [*]; done)), H', ⟨by have := HJ1.out; first | omega | exact Nat.le_refl _⟩, ⟨by (with_reducible repeat (first | refine blk_drewN ?_ _ | refine blk_drew ?_ | refine blk_alloc ?_ _)); exact BK340.out⟩, ⟨by repeat (first | (with_reducible first | exact HB.out | apply below_alloc | apply pw_below_drewN | apply below_drew1 | refine below_set ?_ GE340.out) | exact HB.out)⟩⟩
              · replace c45 := Bool.eq_false_iff.mpr c45
                subst c45
                have H1 : (jobshellref46_Valid.j1 kj1 true a0_0 a0_1 a0_2 l0_3 l0_4 l0_5 a0_6 a0_7 a0_8 a0_9) = some r := by rw [if_neg (show ¬ (false = true) by decide)] at H; exact H
                clear H
                have H := H1
                clear H1
                have H' := Aside0.mk H
                clear H
                have hcz93_0 : wc.cell? ⟨gb340, 0, none⟩ = some (.string a0_0) := (blk_cell BK340.out 0).trans rfl
                have hcz93_1 : wc.cell? ⟨gb340, 1, none⟩ = some (.int .i64 a0_1) := (blk_cell BK340.out 1).trans rfl
                have hcz93_2 : wc.cell? ⟨gb340, 2, none⟩ = some (.int .i64 a0_2) := (blk_cell BK340.out 2).trans rfl
                have hcz93_3 : wc.cell? ⟨gb340, 3, none⟩ = some (.slice A0_3 l0_3.length c0_3) := (blk_cell BK340.out 3).trans rfl
                have hcz93_4 : wc.cell? ⟨gb340, 4, none⟩ = some (.slice A0_4 l0_4.length c0_4) := (blk_cell BK340.out 4).trans rfl
                have hcz93_5 : wc.cell? ⟨gb340, 5, none⟩ = some (.slice A0_5 l0_5.length c0_5) := (blk_cell BK340.out 5).trans rfl
                have hcz93_6 : wc.cell? ⟨gb340, 6, none⟩ = some (.string a0_6) := (blk_cell BK340.out 6).trans rfl
                have hcz93_7 : wc.cell? ⟨gb340, 7, none⟩ = some (.int .i64 a0_7) := (blk_cell BK340.out 7).trans rfl
                have hcz93_8 : wc.cell? ⟨gb340, 8, none⟩ = some (.int .i64 a0_8) := (blk_cell BK340.out 8).trans rfl
                have hcz93_9 : wc.cell? ⟨gb340, 9, none⟩ = some (.string a0_9) := (blk_cell BK340.out 9).trans rfl
                have hfz93_0 := blk_frozen BK340.out 0
                have hfz93_1 := blk_frozen BK340.out 1
                have hfz93_2 := blk_frozen BK340.out 2
                have hfz93_3 := blk_frozen BK340.out 3
                have hfz93_4 := blk_frozen BK340.out 4
                have hfz93_5 := blk_frozen BK340.out 5
                have hfz93_6 := blk_frozen BK340.out 6
                have hfz93_7 := blk_frozen BK340.out 7
                have hfz93_8 := blk_frozen BK340.out 8
                have hfz93_9 := blk_frozen BK340.out 9
                go_wp2_with (first | ((with_reducible refine gate_callee (f := 23) rfl ?_); refine goesL_ (some 39) rfl rfl Try.func23 (by kernel_rfl) rfl #[.agg #[.string a0_0, .int .i64 a0_1], .int .i64 2] rfl (by (try simp only [List.map_toArray, List.map_cons, List.map_nil]); first | done | rfl | (simp only [List.length_drop, List.length_take]; rfl)) ?_; (with_reducible refine (jobshellref46_snap.calls a0_0 a0_1 2 true _ A40.out).mono ?_); rintro e w94 ⟨rfl, hb⟩; refine ⟨_, rfl, ?_⟩; have n0_ := Aside0.mk (blk_below (g := gb340) (o := .cells #[.string a0_0, .int .i64 a0_1, .int .i64 a0_2, .slice A0_3 l0_3.length c0_3, .slice A0_4 l0_4.length c0_4, .slice A0_5 l0_5.length c0_5, .string a0_6, .int .i64 a0_7, .int .i64 a0_8, .string a0_9] 27 (0, 0)) (by (with_reducible repeat (first | refine blk_drewN ?_ _ | refine blk_drew ?_ | refine blk_alloc ?_ _)); exact BK340.out) hb); have n1_ := Aside0.mk (below_step (by repeat (first | (with_reducible first | exact HB.out | apply below_alloc | apply pw_below_drewN | apply below_drew1 | refine below_set ?_ GE340.out) | exact HB.out)) hb); clear BK340; clear HB; have BK340 := n0_; have HB := n1_; clear n0_ n1_; (try clear hb); (try clear hb2); (try clear hk); (try clear hi); have hcz95_0 : w94.cell? ⟨gb340, 0, none⟩ = some (.string a0_0) := (blk_cell BK340.out 0).trans rfl; have hcz95_1 : w94.cell? ⟨gb340, 1, none⟩ = some (.int .i64 a0_1) := (blk_cell BK340.out 1).trans rfl; have hcz95_2 : w94.cell? ⟨gb340, 2, none⟩ = some (.int .i64 a0_2) := (blk_cell BK340.out 2).trans rfl; have hcz95_3 : w94.cell? ⟨gb340, 3, none⟩ = some (.slice A0_3 l0_3.length c0_3) := (blk_cell BK340.out 3).trans rfl; have hcz95_4 : w94.cell? ⟨gb340, 4, none⟩ = some (.slice A0_4 l0_4.length c0_4) := (blk_cell BK340.out 4).trans rfl; have hcz95_5 : w94.cell? ⟨gb340, 5, none⟩ = some (.slice A0_5 l0_5.length c0_5) := (blk_cell BK340.out 5).trans rfl; have hcz95_6 : w94.cell? ⟨gb340, 6, none⟩ = some (.string a0_6) := (blk_cell BK340.out 6).trans rfl; have hcz95_7 : w94.cell? ⟨gb340, 7, none⟩ = some (.int .i64 a0_7) := (blk_cell BK340.out 7).trans rfl; have hcz95_8 : w94.cell? ⟨gb340, 8, none⟩ = some (.int .i64 a0_8) := (blk_cell BK340.out 8).trans rfl; have hcz95_9 : w94.cell? ⟨gb340, 9, none⟩ = some (.string a0_9) := (blk_cell BK340.out 9).trans rfl; have hfz95_0 := blk_frozen BK340.out 0; have hfz95_1 := blk_frozen BK340.out 1; have hfz95_2 := blk_frozen BK340.out 2; have hfz95_3 := blk_frozen BK340.out 3; have hfz95_4 := blk_frozen BK340.out 4; have hfz95_5 := blk_frozen BK340.out 5; have hfz95_6 := blk_frozen BK340.out 6; have hfz95_7 := blk_frozen BK340.out 7; have hfz95_8 := blk_frozen BK340.out 8; have hfz95_9 := blk_frozen BK340.out 9) | (go_at_call 25; (with_reducible refine (jobshellref46_snaps.calls kj1 _ _ l0_4 2 true _ ?side1 ?side2 A42.out).mono ?_); (case side1 => repeat (first | exact (Kd.C_below HR0_4.out HB.out) | (with_reducible refine Kd.C_alloc ?_ _) | (with_reducible refine Kd.C_drewN ?_ _) | (with_reducible refine Kd.C_drew ?_))); (case side2 => exact HC0_4.out); rintro e w96 ⟨rfl, hb⟩; have n0_ := Aside0.mk (blk_below (g := gb340) (o := .cells #[.string a0_0, .int .i64 a0_1, .int .i64 a0_2, .slice A0_3 l0_3.length c0_3, .slice A0_4 l0_4.length c0_4, .slice A0_5 l0_5.length c0_5, .string a0_6, .int .i64 a0_7, .int .i64 a0_8, .string a0_9] 27 (0, 0)) (by (with_reducible repeat (first | refine blk_drewN ?_ _ | refine blk_drew ?_ | refine blk_alloc ?_ _)); exact BK340.out) hb); have n1_ := Aside0.mk (below_step (by repeat (first | (with_reducible first | exact HB.out | apply below_alloc | apply pw_below_drewN | apply below_drew1 | refine below_set ?_ GE340.out) | exact HB.out)) hb); clear BK340; clear HB; have BK340 := n0_; have HB := n1_; clear n0_ n1_; (try clear hb); (try clear hb2); (try clear hk); (try clear hi); have hcz97_0 : w96.cell? ⟨gb340, 0, none⟩ = some (.string a0_0) := (blk_cell BK340.out 0).trans rfl; have hcz97_1 : w96.cell? ⟨gb340, 1, none⟩ = some (.int .i64 a0_1) := (blk_cell BK340.out 1).trans rfl; have hcz97_2 : w96.cell? ⟨gb340, 2, none⟩ = some (.int .i64 a0_2) := (blk_cell BK340.out 2).trans rfl; have hcz97_3 : w96.cell? ⟨gb340, 3, none⟩ = some (.slice A0_3 l0_3.length c0_3) := (blk_cell BK340.out 3).trans rfl; have hcz97_4 : w96.cell? ⟨gb340, 4, none⟩ = some (.slice A0_4 l0_4.length c0_4) := (blk_cell BK340.out 4).trans rfl; have hcz97_5 : w96.cell? ⟨gb340, 5, none⟩ = some (.slice A0_5 l0_5.length c0_5) := (blk_cell BK340.out 5).trans rfl; have hcz97_6 : w96.cell? ⟨gb340, 6, none⟩ = some (.string a0_6) := (blk_cell BK340.out 6).trans rfl; have hcz97_7 : w96.cell? ⟨gb340, 7, none⟩ = some (.int .i64 a0_7) := (blk_cell BK340.out 7).trans rfl; have hcz97_8 : w96.cell? ⟨gb340, 8, none⟩ = some (.int .i64 a0_8) := (blk_cell BK340.out 8).trans rfl; have hcz97_9 : w96.cell? ⟨gb340, 9, none⟩ = some (.string a0_9) := (blk_cell BK340.out 9).trans rfl; have hfz97_0 := blk_frozen BK340.out 0; have hfz97_1 := blk_frozen BK340.out 1; have hfz97_2 := blk_frozen BK340.out 2; have hfz97_3 := blk_frozen BK340.out 3; have hfz97_4 := blk_frozen BK340.out 4; have hfz97_5 := blk_frozen BK340.out 5; have hfz97_6 := blk_frozen BK340.out 6; have hfz97_7 := blk_frozen BK340.out 7; have hfz97_8 := blk_frozen BK340.out 8; have hfz97_9 := blk_frozen BK340.out 9) | (go_at_call 25; (with_reducible refine (jobshellref46_snaps.calls kj1 _ _ l0_5 2 false _ ?side1 ?side2 A44.out).mono ?_); (case side1 => repeat (first | exact (Kd.C_below HR0_5.out HB.out) | (with_reducible refine Kd.C_alloc ?_ _) | (with_reducible refine Kd.C_drewN ?_ _) | (with_reducible refine Kd.C_drew ?_))); (case side2 => exact HC0_5.out); rintro e w98 ⟨rfl, hb⟩; have n0_ := Aside0.mk (blk_below (g := gb340) (o := .cells #[.string a0_0, .int .i64 a0_1, .int .i64 a0_2, .slice A0_3 l0_3.length c0_3, .slice A0_4 l0_4.length c0_4, .slice A0_5 l0_5.length c0_5, .string a0_6, .int .i64 a0_7, .int .i64 a0_8, .string a0_9] 27 (0, 0)) (by (with_reducible repeat (first | refine blk_drewN ?_ _ | refine blk_drew ?_ | refine blk_alloc ?_ _)); exact BK340.out) hb); have n1_ := Aside0.mk (below_step (by repeat (first | (with_reducible first | exact HB.out | apply below_alloc | apply pw_below_drewN | apply below_drew1 | refine below_set ?_ GE340.out) | exact HB.out)) hb); clear BK340; clear HB; have BK340 := n0_; have HB := n1_; clear n0_ n1_; (try clear hb); (try clear hb2); (try clear hk); (try clear hi)))
                go_meet
                case rel => exact ⟨_, (true), (by first | rfl | (simp; done) | (simp [*]; done)), H', ⟨by have := HJ1.out; first | omega | exact Nat.le_refl _⟩, ⟨by (with_reducible repeat (first | refine blk_drewN ?_ _ | refine blk_drew ?_ | refine blk_alloc ?_ _)); exact BK340.out⟩, ⟨by repeat (first | (with_reducible first | exact HB.out | apply below_alloc | apply pw_below_drewN | apply below_drew1 | refine below_set ?_ GE340.out) | exact HB.out)⟩⟩
            · replace c43 := Bool.eq_false_iff.mpr c43
              subst c43
              have H1 : (jobshellref46_Valid.j1 kj1 true a0_0 a0_1 a0_2 l0_3 l0_4 l0_5 a0_6 a0_7 a0_8 a0_9) = some r := by rw [if_neg (show ¬ (false = true) by decide)] at H; exact H
              clear H
              have H := H1
              clear H1
              have H' := Aside0.mk H
              clear H
              have hcz99_0 : wc.cell? ⟨gb340, 0, none⟩ = some (.string a0_0) := (blk_cell BK340.out 0).trans rfl
              have hcz99_1 : wc.cell? ⟨gb340, 1, none⟩ = some (.int .i64 a0_1) := (blk_cell BK340.out 1).trans rfl
              have hcz99_2 : wc.cell? ⟨gb340, 2, none⟩ = some (.int .i64 a0_2) := (blk_cell BK340.out 2).trans rfl
              have hcz99_3 : wc.cell? ⟨gb340, 3, none⟩ = some (.slice A0_3 l0_3.length c0_3) := (blk_cell BK340.out 3).trans rfl
              have hcz99_4 : wc.cell? ⟨gb340, 4, none⟩ = some (.slice A0_4 l0_4.length c0_4) := (blk_cell BK340.out 4).trans rfl
              have hcz99_5 : wc.cell? ⟨gb340, 5, none⟩ = some (.slice A0_5 l0_5.length c0_5) := (blk_cell BK340.out 5).trans rfl
              have hcz99_6 : wc.cell? ⟨gb340, 6, none⟩ = some (.string a0_6) := (blk_cell BK340.out 6).trans rfl
              have hcz99_7 : wc.cell? ⟨gb340, 7, none⟩ = some (.int .i64 a0_7) := (blk_cell BK340.out 7).trans rfl
              have hcz99_8 : wc.cell? ⟨gb340, 8, none⟩ = some (.int .i64 a0_8) := (blk_cell BK340.out 8).trans rfl
              have hcz99_9 : wc.cell? ⟨gb340, 9, none⟩ = some (.string a0_9) := (blk_cell BK340.out 9).trans rfl
              have hfz99_0 := blk_frozen BK340.out 0
              have hfz99_1 := blk_frozen BK340.out 1
              have hfz99_2 := blk_frozen BK340.out 2
              have hfz99_3 := blk_frozen BK340.out 3
              have hfz99_4 := blk_frozen BK340.out 4
              have hfz99_5 := blk_frozen BK340.out 5
              have hfz99_6 := blk_frozen BK340.out 6
              have hfz99_7 := blk_frozen BK340.out 7
              have hfz99_8 := blk_frozen BK340.out 8
              have hfz99_9 := blk_frozen BK340.out 9
              go_wp2_with (first | ((with_reducible refine gate_callee (f := 23) rfl ?_); refine goesL_ (some 39) rfl rfl Try.func23 (by kernel_rfl) rfl #[.agg #[.string a0_0, .int .i64 a0_1], .int .i64 2] rfl (by (try simp only [List.map_toArray, List.map_cons, List.map_nil]); first | done | rfl | (simp only [List.length_drop, List.length_take]; rfl)) ?_; (with_reducible refine (jobshellref46_snap.calls a0_0 a0_1 2 true _ A40.out).mono ?_); rintro e w100 ⟨rfl, hb⟩; refine ⟨_, rfl, ?_⟩; have n0_ := Aside0.mk (blk_below (g := gb340) (o := .cells #[.string a0_0, .int .i64 a0_1, .int .i64 a0_2, .slice A0_3 l0_3.length c0_3, .slice A0_4 l0_4.length c0_4, .slice A0_5 l0_5.length c0_5, .string a0_6, .int .i64 a0_7, .int .i64 a0_8, .string a0_9] 27 (0, 0)) (by (with_reducible repeat (first | refine blk_drewN ?_ _ | refine blk_drew ?_ | refine blk_alloc ?_ _)); exact BK340.out) hb); have n1_ := Aside0.mk (below_step (by repeat (first | (with_reducible first | exact HB.out | apply below_alloc | apply pw_below_drewN | apply below_drew1 | refine below_set ?_ GE340.out) | exact HB.out)) hb); clear BK340; clear HB; have BK340 := n0_; have HB := n1_; clear n0_ n1_; (try clear hb); (try clear hb2); (try clear hk); (try clear hi); have hcz101_0 : w100.cell? ⟨gb340, 0, none⟩ = some (.string a0_0) := (blk_cell BK340.out 0).trans rfl; have hcz101_1 : w100.cell? ⟨gb340, 1, none⟩ = some (.int .i64 a0_1) := (blk_cell BK340.out 1).trans rfl; have hcz101_2 : w100.cell? ⟨gb340, 2, none⟩ = some (.int .i64 a0_2) := (blk_cell BK340.out 2).trans rfl; have hcz101_3 : w100.cell? ⟨gb340, 3, none⟩ = some (.slice A0_3 l0_3.length c0_3) := (blk_cell BK340.out 3).trans rfl; have hcz101_4 : w100.cell? ⟨gb340, 4, none⟩ = some (.slice A0_4 l0_4.length c0_4) := (blk_cell BK340.out 4).trans rfl; have hcz101_5 : w100.cell? ⟨gb340, 5, none⟩ = some (.slice A0_5 l0_5.length c0_5) := (blk_cell BK340.out 5).trans rfl; have hcz101_6 : w100.cell? ⟨gb340, 6, none⟩ = some (.string a0_6) := (blk_cell BK340.out 6).trans rfl; have hcz101_7 : w100.cell? ⟨gb340, 7, none⟩ = some (.int .i64 a0_7) := (blk_cell BK340.out 7).trans rfl; have hcz101_8 : w100.cell? ⟨gb340, 8, none⟩ = some (.int .i64 a0_8) := (blk_cell BK340.out 8).trans rfl; have hcz101_9 : w100.cell? ⟨gb340, 9, none⟩ = some (.string a0_9) := (blk_cell BK340.out 9).trans rfl; have hfz101_0 := blk_frozen BK340.out 0; have hfz101_1 := blk_frozen BK340.out 1; have hfz101_2 := blk_frozen BK340.out 2; have hfz101_3 := blk_frozen BK340.out 3; have hfz101_4 := blk_frozen BK340.out 4; have hfz101_5 := blk_frozen BK340.out 5; have hfz101_6 := blk_frozen BK340.out 6; have hfz101_7 := blk_frozen BK340.out 7; have hfz101_8 := blk_frozen BK340.out 8; have hfz101_9 := blk_frozen BK340.out 9) | (go_at_call 25; (with_reducible refine (jobshellref46_snaps.calls kj1 _ _ l0_4 2 false _ ?side1 ?side2 A42.out).mono ?_); (case side1 => repeat (first | exact (Kd.C_below HR0_4.out HB.out) | (with_reducible refine Kd.C_alloc ?_ _) | (with_reducible refine Kd.C_drewN ?_ _) | (with_reducible refine Kd.C_drew ?_))); (case side2 => exact HC0_4.out); rintro e w102 ⟨rfl, hb⟩; have n0_ := Aside0.mk (blk_below (g := gb340) (o := .cells #[.string a0_0, .int .i64 a0_1, .int .i64 a0_2, .slice A0_3 l0_3.length c0_3, .slice A0_4 l0_4.length c0_4, .slice A0_5 l0_5.length c0_5, .string a0_6, .int .i64 a0_7, .int .i64 a0_8, .string a0_9] 27 (0, 0)) (by (with_reducible repeat (first | refine blk_drewN ?_ _ | refine blk_drew ?_ | refine blk_alloc ?_ _)); exact BK340.out) hb); have n1_ := Aside0.mk (below_step (by repeat (first | (with_reducible first | exact HB.out | apply below_alloc | apply pw_below_drewN | apply below_drew1 | refine below_set ?_ GE340.out) | exact HB.out)) hb); clear BK340; clear HB; have BK340 := n0_; have HB := n1_; clear n0_ n1_; (try clear hb); (try clear hb2); (try clear hk); (try clear hi)))
              go_meet
              case rel => exact ⟨_, (true), (by first | rfl | (simp; done) | (simp [*]; done)), H', ⟨by have := HJ1.out; first | omega | exact Nat.le_refl _⟩, ⟨by (with_reducible repeat (first | refine blk_drewN ?_ _ | refine blk_drew ?_ | refine blk_alloc ?_ _)); exact BK340.out⟩, ⟨by repeat (first | (with_reducible first | exact HB.out | apply below_alloc | apply pw_below_drewN | apply below_drew1 | refine below_set ?_ GE340.out) | exact HB.out)⟩⟩
          · replace c41 := Bool.eq_false_iff.mpr c41
            subst c41
            have H1 : (jobshellref46_Valid.j1 kj1 true a0_0 a0_1 a0_2 l0_3 l0_4 l0_5 a0_6 a0_7 a0_8 a0_9) = some r := by rw [if_neg (show ¬ (false = true) by decide)] at H; exact H
            clear H
            have H := H1
            clear H1
            have H' := Aside0.mk H
            clear H
            have hcz103_0 : wc.cell? ⟨gb340, 0, none⟩ = some (.string a0_0) := (blk_cell BK340.out 0).trans rfl
            have hcz103_1 : wc.cell? ⟨gb340, 1, none⟩ = some (.int .i64 a0_1) := (blk_cell BK340.out 1).trans rfl
            have hcz103_2 : wc.cell? ⟨gb340, 2, none⟩ = some (.int .i64 a0_2) := (blk_cell BK340.out 2).trans rfl
            have hcz103_3 : wc.cell? ⟨gb340, 3, none⟩ = some (.slice A0_3 l0_3.length c0_3) := (blk_cell BK340.out 3).trans rfl
            have hcz103_4 : wc.cell? ⟨gb340, 4, none⟩ = some (.slice A0_4 l0_4.length c0_4) := (blk_cell BK340.out 4).trans rfl
            have hcz103_5 : wc.cell? ⟨gb340, 5, none⟩ = some (.slice A0_5 l0_5.length c0_5) := (blk_cell BK340.out 5).trans rfl
            have hcz103_6 : wc.cell? ⟨gb340, 6, none⟩ = some (.string a0_6) := (blk_cell BK340.out 6).trans rfl
            have hcz103_7 : wc.cell? ⟨gb340, 7, none⟩ = some (.int .i64 a0_7) := (blk_cell BK340.out 7).trans rfl
            have hcz103_8 : wc.cell? ⟨gb340, 8, none⟩ = some (.int .i64 a0_8) := (blk_cell BK340.out 8).trans rfl
            have hcz103_9 : wc.cell? ⟨gb340, 9, none⟩ = some (.string a0_9) := (blk_cell BK340.out 9).trans rfl
            have hfz103_0 := blk_frozen BK340.out 0
            have hfz103_1 := blk_frozen BK340.out 1
            have hfz103_2 := blk_frozen BK340.out 2
            have hfz103_3 := blk_frozen BK340.out 3
            have hfz103_4 := blk_frozen BK340.out 4
            have hfz103_5 := blk_frozen BK340.out 5
            have hfz103_6 := blk_frozen BK340.out 6
            have hfz103_7 := blk_frozen BK340.out 7
            have hfz103_8 := blk_frozen BK340.out 8
            have hfz103_9 := blk_frozen BK340.out 9
            go_wp2_with (first | ((with_reducible refine gate_callee (f := 23) rfl ?_); refine goesL_ (some 39) rfl rfl Try.func23 (by kernel_rfl) rfl #[.agg #[.string a0_0, .int .i64 a0_1], .int .i64 2] rfl (by (try simp only [List.map_toArray, List.map_cons, List.map_nil]); first | done | rfl | (simp only [List.length_drop, List.length_take]; rfl)) ?_; (with_reducible refine (jobshellref46_snap.calls a0_0 a0_1 2 false _ A40.out).mono ?_); rintro e w104 ⟨rfl, hb⟩; refine ⟨_, rfl, ?_⟩; have n0_ := Aside0.mk (blk_below (g := gb340) (o := .cells #[.string a0_0, .int .i64 a0_1, .int .i64 a0_2, .slice A0_3 l0_3.length c0_3, .slice A0_4 l0_4.length c0_4, .slice A0_5 l0_5.length c0_5, .string a0_6, .int .i64 a0_7, .int .i64 a0_8, .string a0_9] 27 (0, 0)) (by (with_reducible repeat (first | refine blk_drewN ?_ _ | refine blk_drew ?_ | refine blk_alloc ?_ _)); exact BK340.out) hb); have n1_ := Aside0.mk (below_step (by repeat (first | (with_reducible first | exact HB.out | apply below_alloc | apply pw_below_drewN | apply below_drew1 | refine below_set ?_ GE340.out) | exact HB.out)) hb); clear BK340; clear HB; have BK340 := n0_; have HB := n1_; clear n0_ n1_; (try clear hb); (try clear hb2); (try clear hk); (try clear hi)))
            go_meet
            case rel => exact ⟨_, (true), (by first | rfl | (simp; done) | (simp [*]; done)), H', ⟨by have := HJ1.out; first | omega | exact Nat.le_refl _⟩, ⟨by (with_reducible repeat (first | refine blk_drewN ?_ _ | refine blk_drew ?_ | refine blk_alloc ?_ _)); exact BK340.out⟩, ⟨by repeat (first | (with_reducible first | exact HB.out | apply below_alloc | apply pw_below_drewN | apply below_drew1 | refine below_set ?_ GE340.out) | exact HB.out)⟩⟩
        case rest =>
          clear HC39
          try clear c2
          try clear p2
          try clear c3
          try clear c4
          try clear c5
          try clear c6
          try clear c7
          try clear c23
          try clear c38
          try clear c41
          try clear c43
          try clear c45
          try clear c46
          try clear c46b0
          try clear c54
          try clear c54b0
          try clear c62
          try clear c62b0
          try clear c70
          try clear c70b0
          try clear c78
          try clear c78b0
          try clear hcz101_0
          try clear hcz101_1
          try clear hcz101_2
          try clear hcz101_3
          try clear hcz101_4
          try clear hcz101_5
          try clear hcz101_6
          try clear hcz101_7
          try clear hcz101_8
          try clear hcz101_9
          try clear hcz103_0
          try clear hcz103_1
          try clear hcz103_2
          try clear hcz103_3
          try clear hcz103_4
          try clear hcz103_5
          try clear hcz103_6
          try clear hcz103_7
          try clear hcz103_8
          try clear hcz103_9
          try clear hcz18_5
          try clear hcz18_6
          try clear hcz18_7
          try clear hcz18_8
          try clear hcz18_9
          try clear hcz20_0
          try clear hcz20_1
          try clear hcz20_2
          try clear hcz20_3
          try clear hcz20_4
          try clear hcz20_5
          try clear hcz20_6
          try clear hcz20_7
          try clear hcz20_8
          try clear hcz20_9
          try clear hcz22_0
          try clear hcz22_1
          try clear hcz22_2
          try clear hcz22_3
          try clear hcz22_4
          try clear hcz22_5
          try clear hcz22_6
          try clear hcz22_7
          try clear hcz22_8
          try clear hcz22_9
          try clear hcz23_0
          try clear hcz23_1
          try clear hcz23_2
          try clear hcz23_3
          try clear hcz23_4
          try clear hcz23_5
          try clear hcz23_6
          try clear hcz23_7
          try clear hcz23_8
          try clear hcz23_9
          try clear hcz25_0
          try clear hcz25_1
          try clear hcz25_2
          try clear hcz25_3
          try clear hcz25_4
          try clear hcz25_5
          try clear hcz25_6
          try clear hcz25_7
          try clear hcz25_8
          try clear hcz25_9
          try clear hcz27_0
          try clear hcz27_1
          try clear hcz27_2
          try clear hcz27_3
          try clear hcz27_4
          try clear hcz27_5
          try clear hcz27_6
          try clear hcz27_7
          try clear hcz27_8
          try clear hcz27_9
          try clear hcz29_0
          try clear hcz29_1
          try clear hcz29_2
          try clear hcz29_3
          try clear hcz29_4
          try clear hcz29_5
          try clear hcz29_6
          try clear hcz29_7
          try clear hcz29_8
          try clear hcz29_9
          try clear hcz31_0
          try clear hcz31_1
          try clear hcz31_2
          try clear hcz31_3
          try clear hcz31_4
          try clear hcz31_5
          try clear hcz31_6
          try clear hcz31_7
          try clear hcz31_8
          try clear hcz31_9
          try clear hcz33_0
          try clear hcz33_1
          try clear hcz33_2
          try clear hcz33_3
          try clear hcz33_4
          try clear hcz33_5
          try clear hcz33_6
          try clear hcz33_7
          try clear hcz33_8
          try clear hcz33_9
          try clear hcz35_0
          try clear hcz35_1
          try clear hcz35_2
          try clear hcz35_3
          try clear hcz35_4
          try clear hcz35_5
          try clear hcz35_6
          try clear hcz35_7
          try clear hcz35_8
          try clear hcz35_9
          try clear hcz36_0
          try clear hcz36_1
          try clear hcz36_2
          try clear hcz36_3
          try clear hcz36_4
          try clear hcz36_5
          try clear hcz36_6
          try clear hcz36_7
          try clear hcz36_8
          try clear hcz36_9
          try clear hcz47_0
          try clear hcz47_1
          try clear hcz47_2
          try clear hcz47_3
          try clear hcz47_4
          try clear hcz47_5
          try clear hcz47_6
          try clear hcz47_7
          try clear hcz47_8
          try clear hcz47_9
          try clear hcz49_0
          try clear hcz49_1
          try clear hcz49_2
          try clear hcz49_3
          try clear hcz49_4
          try clear hcz49_5
          try clear hcz49_6
          try clear hcz49_7
          try clear hcz49_8
          try clear hcz49_9
          try clear hcz51_0
          try clear hcz51_1
          try clear hcz51_2
          try clear hcz51_3
          try clear hcz51_4
          try clear hcz51_5
          try clear hcz51_6
          try clear hcz51_7
          try clear hcz51_8
          try clear hcz51_9
          try clear hcz53_0
          try clear hcz53_1
          try clear hcz53_2
          try clear hcz53_3
          try clear hcz53_4
          try clear hcz53_5
          try clear hcz53_6
          try clear hcz53_7
          try clear hcz53_8
          try clear hcz53_9
          try clear hcz55_0
          try clear hcz55_1
          try clear hcz55_2
          try clear hcz55_3
          try clear hcz55_4
          try clear hcz55_5
          try clear hcz55_6
          try clear hcz55_7
          try clear hcz55_8
          try clear hcz55_9
          try clear hcz57_0
          try clear hcz57_1
          try clear hcz57_2
          try clear hcz57_3
          try clear hcz57_4
          try clear hcz57_5
          try clear hcz57_6
          try clear hcz57_7
          try clear hcz57_8
          try clear hcz57_9
          try clear hcz59_0
          try clear hcz59_1
          try clear hcz59_2
          try clear hcz59_3
          try clear hcz59_4
          try clear hcz59_5
          try clear hcz59_6
          try clear hcz59_7
          try clear hcz59_8
          try clear hcz59_9
          try clear hcz61_0
          try clear hcz61_1
          try clear hcz61_2
          try clear hcz61_3
          try clear hcz61_4
          try clear hcz61_5
          try clear hcz61_6
          try clear hcz61_7
          try clear hcz61_8
          try clear hcz61_9
          try clear hcz63_0
          try clear hcz63_1
          try clear hcz63_2
          try clear hcz63_3
          try clear hcz63_4
          try clear hcz63_5
          try clear hcz63_6
          try clear hcz63_7
          try clear hcz63_8
          try clear hcz63_9
          try clear hcz65_0
          try clear hcz65_1
          try clear hcz65_2
          try clear hcz65_3
          try clear hcz65_4
          try clear hcz65_5
          try clear hcz65_6
          try clear hcz65_7
          try clear hcz65_8
          try clear hcz65_9
          try clear hcz67_0
          try clear hcz67_1
          try clear hcz67_2
          try clear hcz67_3
          try clear hcz67_4
          try clear hcz67_5
          try clear hcz67_6
          try clear hcz67_7
          try clear hcz67_8
          try clear hcz67_9
          try clear hcz69_0
          try clear hcz69_1
          try clear hcz69_2
          try clear hcz69_3
          try clear hcz69_4
          try clear hcz69_5
          try clear hcz69_6
          try clear hcz69_7
          try clear hcz69_8
          try clear hcz69_9
          try clear hcz71_0
          try clear hcz71_1
          try clear hcz71_2
          try clear hcz71_3
          try clear hcz71_4
          try clear hcz71_5
          try clear hcz71_6
          try clear hcz71_7
          try clear hcz71_8
          try clear hcz71_9
          try clear hcz73_0
          try clear hcz73_1
          try clear hcz73_2
          try clear hcz73_3
          try clear hcz73_4
          try clear hcz73_5
          try clear hcz73_6
          try clear hcz73_7
          try clear hcz73_8
          try clear hcz73_9
          try clear hcz75_0
          try clear hcz75_1
          try clear hcz75_2
          try clear hcz75_3
          try clear hcz75_4
          try clear hcz75_5
          try clear hcz75_6
          try clear hcz75_7
          try clear hcz75_8
          try clear hcz75_9
          try clear hcz77_0
          try clear hcz77_1
          try clear hcz77_2
          try clear hcz77_3
          try clear hcz77_4
          try clear hcz77_5
          try clear hcz77_6
          try clear hcz77_7
          try clear hcz77_8
          try clear hcz77_9
          try clear hcz79_0
          try clear hcz79_1
          try clear hcz79_2
          try clear hcz79_3
          try clear hcz79_4
          try clear hcz79_5
          try clear hcz79_6
          try clear hcz79_7
          try clear hcz79_8
          try clear hcz79_9
          try clear hcz81_0
          try clear hcz81_1
          try clear hcz81_2
          try clear hcz81_3
          try clear hcz81_4
          try clear hcz81_5
          try clear hcz81_6
          try clear hcz81_7
          try clear hcz81_8
          try clear hcz81_9
          try clear hcz83_0
          try clear hcz83_1
          try clear hcz83_2
          try clear hcz83_3
          try clear hcz83_4
          try clear hcz83_5
          try clear hcz83_6
          try clear hcz83_7
          try clear hcz83_8
          try clear hcz83_9
          try clear hcz85_0
          try clear hcz85_1
          try clear hcz85_2
          try clear hcz85_3
          try clear hcz85_4
          try clear hcz85_5
          try clear hcz85_6
          try clear hcz85_7
          try clear hcz85_8
          try clear hcz85_9
          try clear hcz86_0
          try clear hcz86_1
          try clear hcz86_2
          try clear hcz86_3
          try clear hcz86_4
          try clear hcz86_5
          try clear hcz86_6
          try clear hcz86_7
          try clear hcz86_8
          try clear hcz86_9
          try clear hcz88_0
          try clear hcz88_1
          try clear hcz88_2
          try clear hcz88_3
          try clear hcz88_4
          try clear hcz88_5
          try clear hcz88_6
          try clear hcz88_7
          try clear hcz88_8
          try clear hcz88_9
          try clear hcz90_0
          try clear hcz90_1
          try clear hcz90_2
          try clear hcz90_3
          try clear hcz90_4
          try clear hcz90_5
          try clear hcz90_6
          try clear hcz90_7
          try clear hcz90_8
          try clear hcz90_9
          try clear hcz92_0
          try clear hcz92_1
          try clear hcz92_2
          try clear hcz92_3
          try clear hcz92_4
          try clear hcz92_5
          try clear hcz92_6
          try clear hcz92_7
          try clear hcz92_8
          try clear hcz92_9
          try clear hcz93_0
          try clear hcz93_1
          try clear hcz93_2
          try clear hcz93_3
          try clear hcz93_4
          try clear hcz93_5
          try clear hcz93_6
          try clear hcz93_7
          try clear hcz93_8
          try clear hcz93_9
          try clear hcz95_0
          try clear hcz95_1
          try clear hcz95_2
          try clear hcz95_3
          try clear hcz95_4
          try clear hcz95_5
          try clear hcz95_6
          try clear hcz95_7
          try clear hcz95_8
          try clear hcz95_9
          try clear hcz97_0
          try clear hcz97_1
          try clear hcz97_2
          try clear hcz97_3
          try clear hcz97_4
          try clear hcz97_5
          try clear hcz97_6
          try clear hcz97_7
          try clear hcz97_8
          try clear hcz97_9
          try clear hcz99_0
          try clear hcz99_1
          try clear hcz99_2
          try clear hcz99_3
          try clear hcz99_4
          try clear hcz99_5
          try clear hcz99_6
          try clear hcz99_7
          try clear hcz99_8
          try clear hcz99_9
          try clear hcz9_0
          try clear hcz9_1
          try clear hcz9_2
          try clear hcz9_3
          try clear hcz9_4
          try clear hcz9_5
          try clear hcz9_6
          try clear hcz9_7
          try clear hcz9_8
          try clear hcz9_9
          try clear hfz101_0
          try clear hfz101_1
          try clear hfz101_2
          try clear hfz101_3
          try clear hfz101_4
          try clear hfz101_5
          try clear hfz101_6
          try clear hfz101_7
          try clear hfz101_8
          try clear hfz101_9
          try clear hfz103_0
          try clear hfz103_1
          try clear hfz103_2
          try clear hfz103_3
          try clear hfz103_4
          try clear hfz103_5
          try clear hfz103_6
          try clear hfz103_7
          try clear hfz103_8
          try clear hfz103_9
          try clear hfz11_0
          try clear hfz11_1
          try clear hfz11_2
          try clear hfz11_3
          try clear hfz11_4
          try clear hfz11_5
          try clear hfz11_6
          try clear hfz11_7
          try clear hfz11_8
          try clear hfz11_9
          try clear hfz16_0
          try clear hfz16_1
          try clear hfz16_2
          try clear hfz16_3
          try clear hfz16_4
          try clear hfz16_5
          try clear hfz16_6
          try clear hfz16_7
          try clear hfz16_8
          try clear hfz16_9
          try clear hfz18_0
          try clear hfz18_1
          try clear hfz18_2
          try clear hfz18_3
          try clear hfz18_4
          try clear hfz18_5
          try clear hfz18_6
          try clear hfz18_7
          try clear hfz18_8
          try clear hfz18_9
          try clear hfz20_0
          try clear hfz20_1
          try clear hfz20_2
          try clear hfz20_3
          try clear hfz20_4
          try clear hfz20_5
          try clear hfz20_6
          try clear hfz20_7
          try clear hfz20_8
          try clear hfz20_9
          try clear hfz22_0
          try clear hfz22_1
          try clear hfz22_2
          try clear hfz22_3
          try clear hfz22_4
          try clear hfz22_5
          try clear hfz22_6
          try clear hfz22_7
          try clear hfz22_8
          try clear hfz22_9
          try clear hfz23_0
          try clear hfz23_1
          try clear hfz23_2
          try clear hfz23_3
          try clear hfz23_4
          try clear hfz23_5
          try clear hfz23_6
          try clear hfz23_7
          try clear hfz23_8
          try clear hfz23_9
          try clear hfz25_0
          try clear hfz25_1
          try clear hfz25_2
          try clear hfz25_3
          try clear hfz25_4
          try clear hfz25_5
          try clear hfz25_6
          try clear hfz25_7
          try clear hfz25_8
          try clear hfz25_9
          try clear hfz27_0
          try clear hfz27_1
          try clear hfz27_2
          try clear hfz27_3
          try clear hfz27_4
          try clear hfz27_5
          try clear hfz27_6
          try clear hfz27_7
          try clear hfz27_8
          try clear hfz27_9
          try clear hfz29_0
          try clear hfz29_1
          try clear hfz29_2
          try clear hfz29_3
          try clear hfz29_4
          try clear hfz29_5
          try clear hfz29_6
          try clear hfz29_7
          try clear hfz29_8
          try clear hfz29_9
          try clear hfz31_0
          try clear hfz31_1
          try clear hfz31_2
          try clear hfz31_3
          try clear hfz31_4
          try clear hfz31_5
          try clear hfz31_6
          try clear hfz31_7
          try clear hfz31_8
          try clear hfz31_9
          try clear hfz33_0
          try clear hfz33_1
          try clear hfz33_2
          try clear hfz33_3
          try clear hfz33_4
          try clear hfz33_5
          try clear hfz33_6
          try clear hfz33_7
          try clear hfz33_8
          try clear hfz33_9
          try clear hfz35_0
          try clear hfz35_1
          try clear hfz35_2
          try clear hfz35_3
          try clear hfz35_4
          try clear hfz35_5
          try clear hfz35_6
          try clear hfz35_7
          try clear hfz35_8
          try clear hfz35_9
          try clear hfz36_0
          try clear hfz36_1
          try clear hfz36_2
          try clear hfz36_3
          try clear hfz36_4
          try clear hfz36_5
          try clear hfz36_6
          try clear hfz36_7
          try clear hfz36_8
          try clear hfz36_9
          try clear hfz47_0
          try clear hfz47_1
          try clear hfz47_2
          try clear hfz47_3
          try clear hfz47_4
          try clear hfz47_5
          try clear hfz47_6
          try clear hfz47_7
          try clear hfz47_8
          try clear hfz47_9
          try clear hfz49_0
          try clear hfz49_1
          try clear hfz49_2
          try clear hfz49_3
          try clear hfz49_4
          try clear hfz49_5
          try clear hfz49_6
          try clear hfz49_7
          try clear hfz49_8
          try clear hfz49_9
          try clear hfz51_0
          try clear hfz51_1
          try clear hfz51_2
          try clear hfz51_3
          try clear hfz51_4
          try clear hfz51_5
          try clear hfz51_6
          try clear hfz51_7
          try clear hfz51_8
          try clear hfz51_9
          try clear hfz53_0
          try clear hfz53_1
          try clear hfz53_2
          try clear hfz53_3
          try clear hfz53_4
          try clear hfz53_5
          try clear hfz53_6
          try clear hfz53_7
          try clear hfz53_8
          try clear hfz53_9
          try clear hfz55_0
          try clear hfz55_1
          try clear hfz55_2
          try clear hfz55_3
          try clear hfz55_4
          try clear hfz55_5
          try clear hfz55_6
          try clear hfz55_7
          try clear hfz55_8
          try clear hfz55_9
          try clear hfz57_0
          try clear hfz57_1
          try clear hfz57_2
          try clear hfz57_3
          try clear hfz57_4
          try clear hfz57_5
          try clear hfz57_6
          try clear hfz57_7
          try clear hfz57_8
          try clear hfz57_9
          try clear hfz59_0
          try clear hfz59_1
          try clear hfz59_2
          try clear hfz59_3
          try clear hfz59_4
          try clear hfz59_5
          try clear hfz59_6
          try clear hfz59_7
          try clear hfz59_8
          try clear hfz59_9
          try clear hfz61_0
          try clear hfz61_1
          try clear hfz61_2
          try clear hfz61_3
          try clear hfz61_4
          try clear hfz61_5
          try clear hfz61_6
          try clear hfz61_7
          try clear hfz61_8
          try clear hfz61_9
          try clear hfz63_0
          try clear hfz63_1
          try clear hfz63_2
          try clear hfz63_3
          try clear hfz63_4
          try clear hfz63_5
          try clear hfz63_6
          try clear hfz63_7
          try clear hfz63_8
          try clear hfz63_9
          try clear hfz65_0
          try clear hfz65_1
          try clear hfz65_2
          try clear hfz65_3
          try clear hfz65_4
          try clear hfz65_5
          try clear hfz65_6
          try clear hfz65_7
          try clear hfz65_8
          try clear hfz65_9
          try clear hfz67_0
          try clear hfz67_1
          try clear hfz67_2
          try clear hfz67_3
          try clear hfz67_4
          try clear hfz67_5
          try clear hfz67_6
          try clear hfz67_7
          try clear hfz67_8
          try clear hfz67_9
          try clear hfz69_0
          try clear hfz69_1
          try clear hfz69_2
          try clear hfz69_3
          try clear hfz69_4
          try clear hfz69_5
          try clear hfz69_6
          try clear hfz69_7
          try clear hfz69_8
          try clear hfz69_9
          try clear hfz71_0
          try clear hfz71_1
          try clear hfz71_2
          try clear hfz71_3
          try clear hfz71_4
          try clear hfz71_5
          try clear hfz71_6
          try clear hfz71_7
          try clear hfz71_8
          try clear hfz71_9
          try clear hfz73_0
          try clear hfz73_1
          try clear hfz73_2
          try clear hfz73_3
          try clear hfz73_4
          try clear hfz73_5
          try clear hfz73_6
          try clear hfz73_7
          try clear hfz73_8
          try clear hfz73_9
          try clear hfz75_0
          try clear hfz75_1
          try clear hfz75_2
          try clear hfz75_3
          try clear hfz75_4
          try clear hfz75_5
          try clear hfz75_6
          try clear hfz75_7
          try clear hfz75_8
          try clear hfz75_9
          try clear hfz77_0
          try clear hfz77_1
          try clear hfz77_2
          try clear hfz77_3
          try clear hfz77_4
          try clear hfz77_5
          try clear hfz77_6
          try clear hfz77_7
          try clear hfz77_8
          try clear hfz77_9
          try clear hfz79_0
          try clear hfz79_1
          try clear hfz79_2
          try clear hfz79_3
          try clear hfz79_4
          try clear hfz79_5
          try clear hfz79_6
          try clear hfz79_7
          try clear hfz79_8
          try clear hfz79_9
          try clear hfz81_0
          try clear hfz81_1
          try clear hfz81_2
          try clear hfz81_3
          try clear hfz81_4
          try clear hfz81_5
          try clear hfz81_6
          try clear hfz81_7
          try clear hfz81_8
          try clear hfz81_9
          try clear hfz83_0
          try clear hfz83_1
          try clear hfz83_2
          try clear hfz83_3
          try clear hfz83_4
          try clear hfz83_5
          try clear hfz83_6
          try clear hfz83_7
          try clear hfz83_8
          try clear hfz83_9
          try clear hfz85_0
          try clear hfz85_1
          try clear hfz85_2
          try clear hfz85_3
          try clear hfz85_4
          try clear hfz85_5
          try clear hfz85_6
          try clear hfz85_7
          try clear hfz85_8
          try clear hfz85_9
          try clear hfz86_0
          try clear hfz86_1
          try clear hfz86_2
          try clear hfz86_3
          try clear hfz86_4
          try clear hfz86_5
          try clear hfz86_6
          try clear hfz86_7
          try clear hfz86_8
          try clear hfz86_9
          try clear hfz88_0
          try clear hfz88_1
          try clear hfz88_2
          try clear hfz88_3
          try clear hfz88_4
          try clear hfz88_5
          try clear hfz88_6
          try clear hfz88_7
          try clear hfz88_8
          try clear hfz88_9
          try clear hfz90_0
          try clear hfz90_1
          try clear hfz90_2
          try clear hfz90_3
          try clear hfz90_4
          try clear hfz90_5
          try clear hfz90_6
          try clear hfz90_7
          try clear hfz90_8
          try clear hfz90_9
          try clear hfz92_0
          try clear hfz92_1
          try clear hfz92_2
          try clear hfz92_3
          try clear hfz92_4
          try clear hfz92_5
          try clear hfz92_6
          try clear hfz92_7
          try clear hfz92_8
          try clear hfz92_9
          try clear hfz93_0
          try clear hfz93_1
          try clear hfz93_2
          try clear hfz93_3
          try clear hfz93_4
          try clear hfz93_5
          try clear hfz93_6
          try clear hfz93_7
          try clear hfz93_8
          try clear hfz93_9
          try clear hfz95_0
          try clear hfz95_1
          try clear hfz95_2
          try clear hfz95_3
          try clear hfz95_4
          try clear hfz95_5
          try clear hfz95_6
          try clear hfz95_7
          try clear hfz95_8
          try clear hfz95_9
          try clear hfz97_0
          try clear hfz97_1
          try clear hfz97_2
          try clear hfz97_3
          try clear hfz97_4
          try clear hfz97_5
          try clear hfz97_6
          try clear hfz97_7
          try clear hfz97_8
          try clear hfz97_9
          try clear hfz99_0
          try clear hfz99_1
          try clear hfz99_2
          try clear hfz99_3
          try clear hfz99_4
          try clear hfz99_5
          try clear hfz99_6
          try clear hfz99_7
          try clear hfz99_8
          try clear hfz99_9
          try clear hfz9_0
          try clear hfz9_1
          try clear hfz9_2
          try clear hfz9_3
          try clear hfz9_4
          try clear hfz9_5
          try clear hfz9_6
          try clear hfz9_7
          try clear hfz9_8
          try clear hfz9_9
          obtain ⟨kq, x86_38, rfl, HA, HJ38, BK340, HB⟩ := hcut
          cases kq with
          | zero => exact absurd HA.out (by simp [jobshellref46_Valid.j1])
          | succ kj38 =>
            have H := HA.out
            clear HA
            simp only [jobshellref46_Valid.j1] at H
            by_cases c105 : x86_38 = true
            · subst c105
              have H1 : (some 2) = some r := by rw [if_pos rfl] at H; exact H
              clear H
              have H := H1
              clear H1
              obtain rfl := Option.some.inj H
              go_wp2
              go_ret
              exact ⟨by first | rfl | (simp [errW_none, errW_some] <;> rfl) | (simp [*, errW_none, errW_some] <;> rfl), by repeat (first | (with_reducible first | exact HB.out | apply below_alloc | apply pw_below_drewN | apply below_drew1 | refine below_set ?_ GE340.out) | exact HB.out)⟩
            · replace c105 := Bool.eq_false_iff.mpr c105
              subst c105
              have H1 : (if (l0_3.length : Int) > 16 then (some 4) else (if (l0_4.length : Int) > 64 then (some 4) else (if (l0_5.length : Int) > 64 then (some 4) else (some 0)))) = some r := by rw [if_neg (show ¬ (false = true) by decide)] at H; exact H
              clear H
              have H := H1
              clear H1
              by_cases c106 : (l0_3.length : Int) > 16
              · rw [if_pos c106] at H
                have c106b0 : decide (16 < (l0_3.length : Int)) = true := decide_eq_true c106
                have c106b1 : decide (16 < l0_3.length) = true := decide_eq_true (by omega)
                clear c106
                obtain rfl := Option.some.inj H
                have hcz107_0 : wc.cell? ⟨gb340, 0, none⟩ = some (.string a0_0) := (blk_cell BK340.out 0).trans rfl
                have hcz107_1 : wc.cell? ⟨gb340, 1, none⟩ = some (.int .i64 a0_1) := (blk_cell BK340.out 1).trans rfl
                have hcz107_2 : wc.cell? ⟨gb340, 2, none⟩ = some (.int .i64 a0_2) := (blk_cell BK340.out 2).trans rfl
                have hcz107_3 : wc.cell? ⟨gb340, 3, none⟩ = some (.slice A0_3 l0_3.length c0_3) := (blk_cell BK340.out 3).trans rfl
                have hcz107_4 : wc.cell? ⟨gb340, 4, none⟩ = some (.slice A0_4 l0_4.length c0_4) := (blk_cell BK340.out 4).trans rfl
                have hcz107_5 : wc.cell? ⟨gb340, 5, none⟩ = some (.slice A0_5 l0_5.length c0_5) := (blk_cell BK340.out 5).trans rfl
                have hcz107_6 : wc.cell? ⟨gb340, 6, none⟩ = some (.string a0_6) := (blk_cell BK340.out 6).trans rfl
                have hcz107_7 : wc.cell? ⟨gb340, 7, none⟩ = some (.int .i64 a0_7) := (blk_cell BK340.out 7).trans rfl
                have hcz107_8 : wc.cell? ⟨gb340, 8, none⟩ = some (.int .i64 a0_8) := (blk_cell BK340.out 8).trans rfl
                have hcz107_9 : wc.cell? ⟨gb340, 9, none⟩ = some (.string a0_9) := (blk_cell BK340.out 9).trans rfl
                have hfz107_0 := blk_frozen BK340.out 0
                have hfz107_1 := blk_frozen BK340.out 1
                have hfz107_2 := blk_frozen BK340.out 2
                have hfz107_3 := blk_frozen BK340.out 3
                have hfz107_4 := blk_frozen BK340.out 4
                have hfz107_5 := blk_frozen BK340.out 5
                have hfz107_6 := blk_frozen BK340.out 6
                have hfz107_7 := blk_frozen BK340.out 7
                have hfz107_8 := blk_frozen BK340.out 8
                have hfz107_9 := blk_frozen BK340.out 9
                go_wp2
                go_ret
                exact ⟨by first | rfl | (simp [errW_none, errW_some] <;> rfl) | (simp [*, errW_none, errW_some] <;> rfl), by repeat (first | (with_reducible first | exact HB.out | apply below_alloc | apply pw_below_drewN | apply below_drew1 | refine below_set ?_ GE340.out) | exact HB.out)⟩
              · rw [if_neg c106] at H
                have c106b0 : decide (16 < (l0_3.length : Int)) = false := decide_eq_false c106
                have c106b1 : decide (16 < l0_3.length) = false := decide_eq_false (by omega)
                clear c106
                by_cases c108 : (l0_4.length : Int) > 64
                · rw [if_pos c108] at H
                  have c108b0 : decide (64 < (l0_4.length : Int)) = true := decide_eq_true c108
                  have c108b1 : decide (64 < l0_4.length) = true := decide_eq_true (by omega)
                  clear c108
                  obtain rfl := Option.some.inj H
                  have hcz109_0 : wc.cell? ⟨gb340, 0, none⟩ = some (.string a0_0) := (blk_cell BK340.out 0).trans rfl
                  have hcz109_1 : wc.cell? ⟨gb340, 1, none⟩ = some (.int .i64 a0_1) := (blk_cell BK340.out 1).trans rfl
                  have hcz109_2 : wc.cell? ⟨gb340, 2, none⟩ = some (.int .i64 a0_2) := (blk_cell BK340.out 2).trans rfl
                  have hcz109_3 : wc.cell? ⟨gb340, 3, none⟩ = some (.slice A0_3 l0_3.length c0_3) := (blk_cell BK340.out 3).trans rfl
                  have hcz109_4 : wc.cell? ⟨gb340, 4, none⟩ = some (.slice A0_4 l0_4.length c0_4) := (blk_cell BK340.out 4).trans rfl
                  have hcz109_5 : wc.cell? ⟨gb340, 5, none⟩ = some (.slice A0_5 l0_5.length c0_5) := (blk_cell BK340.out 5).trans rfl
                  have hcz109_6 : wc.cell? ⟨gb340, 6, none⟩ = some (.string a0_6) := (blk_cell BK340.out 6).trans rfl
                  have hcz109_7 : wc.cell? ⟨gb340, 7, none⟩ = some (.int .i64 a0_7) := (blk_cell BK340.out 7).trans rfl
                  have hcz109_8 : wc.cell? ⟨gb340, 8, none⟩ = some (.int .i64 a0_8) := (blk_cell BK340.out 8).trans rfl
                  have hcz109_9 : wc.cell? ⟨gb340, 9, none⟩ = some (.string a0_9) := (blk_cell BK340.out 9).trans rfl
                  have hfz109_0 := blk_frozen BK340.out 0
                  have hfz109_1 := blk_frozen BK340.out 1
                  have hfz109_2 := blk_frozen BK340.out 2
                  have hfz109_3 := blk_frozen BK340.out 3
                  have hfz109_4 := blk_frozen BK340.out 4
                  have hfz109_5 := blk_frozen BK340.out 5
                  have hfz109_6 := blk_frozen BK340.out 6
                  have hfz109_7 := blk_frozen BK340.out 7
                  have hfz109_8 := blk_frozen BK340.out 8
                  have hfz109_9 := blk_frozen BK340.out 9
                  go_wp2
                  go_ret
                  exact ⟨by first | rfl | (simp [errW_none, errW_some] <;> rfl) | (simp [*, errW_none, errW_some] <;> rfl), by repeat (first | (with_reducible first | exact HB.out | apply below_alloc | apply pw_below_drewN | apply below_drew1 | refine below_set ?_ GE340.out) | exact HB.out)⟩
                · rw [if_neg c108] at H
                  have c108b0 : decide (64 < (l0_4.length : Int)) = false := decide_eq_false c108
                  have c108b1 : decide (64 < l0_4.length) = false := decide_eq_false (by omega)
                  clear c108
                  by_cases c110 : (l0_5.length : Int) > 64
                  · rw [if_pos c110] at H
                    have c110b0 : decide (64 < (l0_5.length : Int)) = true := decide_eq_true c110
                    have c110b1 : decide (64 < l0_5.length) = true := decide_eq_true (by omega)
                    clear c110
                    obtain rfl := Option.some.inj H
                    have hcz111_0 : wc.cell? ⟨gb340, 0, none⟩ = some (.string a0_0) := (blk_cell BK340.out 0).trans rfl
                    have hcz111_1 : wc.cell? ⟨gb340, 1, none⟩ = some (.int .i64 a0_1) := (blk_cell BK340.out 1).trans rfl
                    have hcz111_2 : wc.cell? ⟨gb340, 2, none⟩ = some (.int .i64 a0_2) := (blk_cell BK340.out 2).trans rfl
                    have hcz111_3 : wc.cell? ⟨gb340, 3, none⟩ = some (.slice A0_3 l0_3.length c0_3) := (blk_cell BK340.out 3).trans rfl
                    have hcz111_4 : wc.cell? ⟨gb340, 4, none⟩ = some (.slice A0_4 l0_4.length c0_4) := (blk_cell BK340.out 4).trans rfl
                    have hcz111_5 : wc.cell? ⟨gb340, 5, none⟩ = some (.slice A0_5 l0_5.length c0_5) := (blk_cell BK340.out 5).trans rfl
                    have hcz111_6 : wc.cell? ⟨gb340, 6, none⟩ = some (.string a0_6) := (blk_cell BK340.out 6).trans rfl
                    have hcz111_7 : wc.cell? ⟨gb340, 7, none⟩ = some (.int .i64 a0_7) := (blk_cell BK340.out 7).trans rfl
                    have hcz111_8 : wc.cell? ⟨gb340, 8, none⟩ = some (.int .i64 a0_8) := (blk_cell BK340.out 8).trans rfl
                    have hcz111_9 : wc.cell? ⟨gb340, 9, none⟩ = some (.string a0_9) := (blk_cell BK340.out 9).trans rfl
                    have hfz111_0 := blk_frozen BK340.out 0
                    have hfz111_1 := blk_frozen BK340.out 1
                    have hfz111_2 := blk_frozen BK340.out 2
                    have hfz111_3 := blk_frozen BK340.out 3
                    have hfz111_4 := blk_frozen BK340.out 4
                    have hfz111_5 := blk_frozen BK340.out 5
                    have hfz111_6 := blk_frozen BK340.out 6
                    have hfz111_7 := blk_frozen BK340.out 7
                    have hfz111_8 := blk_frozen BK340.out 8
                    have hfz111_9 := blk_frozen BK340.out 9
                    go_wp2
                    go_ret
                    exact ⟨by first | rfl | (simp [errW_none, errW_some] <;> rfl) | (simp [*, errW_none, errW_some] <;> rfl), by repeat (first | (with_reducible first | exact HB.out | apply below_alloc | apply pw_below_drewN | apply below_drew1 | refine below_set ?_ GE340.out) | exact HB.out)⟩
                  · rw [if_neg c110] at H
                    have c110b0 : decide (64 < (l0_5.length : Int)) = false := decide_eq_false c110
                    have c110b1 : decide (64 < l0_5.length) = false := decide_eq_false (by omega)
                    clear c110
                    obtain rfl := Option.some.inj H
                    have hcz112_0 : wc.cell? ⟨gb340, 0, none⟩ = some (.string a0_0) := (blk_cell BK340.out 0).trans rfl
                    have hcz112_1 : wc.cell? ⟨gb340, 1, none⟩ = some (.int .i64 a0_1) := (blk_cell BK340.out 1).trans rfl
                    have hcz112_2 : wc.cell? ⟨gb340, 2, none⟩ = some (.int .i64 a0_2) := (blk_cell BK340.out 2).trans rfl
                    have hcz112_3 : wc.cell? ⟨gb340, 3, none⟩ = some (.slice A0_3 l0_3.length c0_3) := (blk_cell BK340.out 3).trans rfl
                    have hcz112_4 : wc.cell? ⟨gb340, 4, none⟩ = some (.slice A0_4 l0_4.length c0_4) := (blk_cell BK340.out 4).trans rfl
                    have hcz112_5 : wc.cell? ⟨gb340, 5, none⟩ = some (.slice A0_5 l0_5.length c0_5) := (blk_cell BK340.out 5).trans rfl
                    have hcz112_6 : wc.cell? ⟨gb340, 6, none⟩ = some (.string a0_6) := (blk_cell BK340.out 6).trans rfl
                    have hcz112_7 : wc.cell? ⟨gb340, 7, none⟩ = some (.int .i64 a0_7) := (blk_cell BK340.out 7).trans rfl
                    have hcz112_8 : wc.cell? ⟨gb340, 8, none⟩ = some (.int .i64 a0_8) := (blk_cell BK340.out 8).trans rfl
                    have hcz112_9 : wc.cell? ⟨gb340, 9, none⟩ = some (.string a0_9) := (blk_cell BK340.out 9).trans rfl
                    have hfz112_0 := blk_frozen BK340.out 0
                    have hfz112_1 := blk_frozen BK340.out 1
                    have hfz112_2 := blk_frozen BK340.out 2
                    have hfz112_3 := blk_frozen BK340.out 3
                    have hfz112_4 := blk_frozen BK340.out 4
                    have hfz112_5 := blk_frozen BK340.out 5
                    have hfz112_6 := blk_frozen BK340.out 6
                    have hfz112_7 := blk_frozen BK340.out 7
                    have hfz112_8 := blk_frozen BK340.out 8
                    have hfz112_9 := blk_frozen BK340.out 9
                    go_wp2
                    go_ret
                    exact ⟨by first | rfl | (simp [errW_none, errW_some] <;> rfl) | (simp [*, errW_none, errW_some] <;> rfl), by repeat (first | (with_reducible first | exact HB.out | apply below_alloc | apply pw_below_drewN | apply below_drew1 | refine below_set ?_ GE340.out) | exact HB.out)⟩

end Go.Proofs.Ytlbbjdggebgabaa.P
end
