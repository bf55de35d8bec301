/- Texts of this claim, joined: Px8, G0, Px3, Px4, Px9. -/
import Derived.Test.YtlbbjdggebgabaaRDM3
import Derived.Test.YtlbbjdggebgabaaRDM4
import Derived.Laws.BytesArg
import Derived.Laws.ResultCell
section
namespace Go.Proofs.Ytlbbjdggebgabaa.P
open Go.RowKit Go.Proofs.YtlbbjdggebgabaaW.PrintWords Go.Proofs.YtlbbjdggebgabaaW.PrintLast Go.Proofs.YtlbbjdggebgabaaW.PrintMore
attribute [local go_sem] max2_int min2_int max_two min_two max_three min_three max_four min_four   -- for this text's walks alone
set_option linter.unusedVariables false
set_option linter.unusedSimpArgs false

mutual
def keymap_Find.l0 : Nat → ByteArray → Bool → Int → Int → List (S46) → Int → Int → Option (Int × Int)
  | 0, _, _, _, _, _, _, _ => none
  | k + 1, x1, x6, x7, x8, x11, x12, x13 => if x13 < x12 then (if 0 ≤ x13 then (if x13 < (x11.length : Int) then (if ((rd_T46 x11 x13).f0).toList = x1.toList then (keymap_Find.j1 k x1 x6 x7 x8 x11 x12 x13 (!x6) ((rd_T46 x11 x13).f0) ((rd_T46 x11 x13).f1)) else (keymap_Find.j1 k x1 x6 x7 x8 x11 x12 x13 false ((rd_T46 x11 x13).f0) ((rd_T46 x11 x13).f1))) else (none)) else (none)) else (some (x7, x8))
def keymap_Find.j1 : Nat → ByteArray → Bool → Int → Int → List (S46) → Int → Int → Bool → ByteArray → Int → Option (Int × Int)
  | 0, _, _, _, _, _, _, _, _, _, _ => none
  | k + 1, x1, x6, x7, x8, x11, x12, x13, x24, x189000, x189001 => if x24 = true then (if (x189000.size : Int) > (x1.size : Int) then ((strings_HasPrefix.f x189000 x1).bind fun t189 => (if t189 = true then (keymap_Find.l0 k x1 true x189001 1 x11 x12 (wrap64 (x13 + 1))) else (keymap_Find.l0 k x1 true x189001 x8 x11 x12 (wrap64 (x13 + 1))))) else (keymap_Find.l0 k x1 true x189001 x8 x11 x12 (wrap64 (x13 + 1)))) else (if (x189000.size : Int) > (x1.size : Int) then ((strings_HasPrefix.f x189000 x1).bind fun t190 => (if t190 = true then (keymap_Find.l0 k x1 x6 x7 1 x11 x12 (wrap64 (x13 + 1))) else (keymap_Find.l0 k x1 x6 x7 x8 x11 x12 (wrap64 (x13 + 1))))) else (keymap_Find.l0 k x1 x6 x7 x8 x11 x12 (wrap64 (x13 + 1))))
end
def keymap_Find.f (k : Nat) (l0 : List (S46)) (a1 : ByteArray) : Option (Int × Int) := keymap_Find.l0 k a1 false 0 0 l0 (l0.length : Int) 0
set_option maxHeartbeats 8000000 in
set_option maxRecDepth 100000 in
theorem keymap_Find.calls (k : Nat) (A0 : Option Addr) (c0 : Nat) (l0 : List (S46)) (a1 : ByteArray) (r1 : Int) (r2 : Int) (w : World) (hr0 : Kd.C k46 w A0 l0.length l0) (hc0 : l0.length ≤ c0) (h : keymap_Find.f k l0 a1 = some (r1, r2)) :
    Calls Try.prog 32 #[.slice A0 l0.length c0, .string a1] w fun e w' => e = .returned (.tuple #[.int .i64 r1, .int .i64 r2]) ∧ Below w.heap.size w w' := by
  have hu46 := Try.underlying46
  have HR0 := Aside0.mk hr0
  have HC0 := Aside0.mk hc0
  clear hr0 hc0
  have HB := Aside0.mk (Below.refl w.heap.size w)
  have H : (keymap_Find.l0 k a1 false 0 0 l0 (l0.length : Int) 0) = some (r1, r2) := h
  clear h
  have H' := Aside0.mk H
  clear H
  go_enter Try.func32, Try.ntmps32
  go_wp2
  repeat (go_quiet (fail); try go_wp2)
  go_loopg [6, 7, 8, 13] k (fun kq v6 v7 v8 v13 w' => ∃ (x6_1 : Bool) (x7_1 : Int) (x8_1 : Int) (x13_1 : Int), v6 = .bool x6_1 ∧ v7 = .int .i64 x7_1 ∧ v8 = .int .i64 x8_1 ∧ v13 = .int .i64 x13_1 ∧ Aside0 (keymap_Find.l0 kq a1 x6_1 x7_1 x8_1 l0 (l0.length : Int) x13_1 = some (r1, r2)) ∧ Aside0 (kq ≤ k) ∧ Aside0 (Below w.heap.size w w'))
  case atStart => exact ⟨(false), (0), (0), (0), (by first | rfl | (simp; done) | (simp [*]; done)), (by first | rfl | (simp; done) | (simp [*]; done)), (by first | rfl | (simp; done) | (simp [*]; done)), (by first | rfl | (simp; done) | (simp [*]; done)), H', ⟨Nat.le_refl _⟩, ⟨by repeat (first | (with_reducible first | exact HB.out | apply below_alloc | apply pw_below_drewN | apply below_drew1) | exact HB.out)⟩⟩
  case round =>
    clear H'
    try clear p2
    obtain ⟨x6_1, x7_1, x8_1, x13_1, rfl, rfl, rfl, rfl, HA, HK1, HB⟩ := hrel
    cases gk with
    | zero => exact absurd HA.out (by simp [keymap_Find.l0])
    | succ k1 =>
      have H := HA.out
      clear HA
      simp only [keymap_Find.l0] at H
      by_cases c3 : x13_1 < (l0.length : Int)
      · rw [if_pos c3] at H
        have c3b0 : decide (x13_1 < (l0.length : Int)) = true := decide_eq_true c3
        clear c3
        by_cases c4 : 0 ≤ x13_1
        · rw [if_pos c4] at H
          have c4b0 : decide (0 ≤ x13_1) = true := decide_eq_true c4
          clear c4
          by_cases c5 : x13_1 < (l0.length : Int)
          · rw [if_pos c5] at H
            have c5b0 : decide (x13_1 < (l0.length : Int)) = true := decide_eq_true c5
            clear c5
            have HC6 := Aside0.mk H
            clear H
            have p187 : 0 ≤ (x13_1 : Int) := of_decide_eq_true (by first | (with_reducible assumption) | assumption)
            have q187 : x13_1 < (l0.length : Int) := of_decide_eq_true (by first | (with_reducible assumption) | assumption)
            obtain ⟨ad187, e187, hx187_0, hx187_1⟩ := at_T46 HR0.out x13_1 p187 q187
            cases e187
            replace hx187_0 := (HB.out.cell (World.block_lt_of_cell? w _ hx187_0)).trans hx187_0
            replace hx187_1 := (HB.out.cell (World.block_lt_of_cell? w _ hx187_1)).trans hx187_1
            replace p187 := eq_true p187
            replace q187 := eq_true q187
            go_upto_region 5 with (first | ((with_reducible refine gate_dst (N := 10) rfl ?_); refine box_event ?hg (N := 10) ?hd (cs := #[.string (⟨#[]⟩ : ByteArray), .int .i64 0]) (t := 46) ?hr ?_; (case hd => rfl); (case hg => rfl); (case hr => first | (go_simp; done) | (go_simp; rfl)); intro gb188 hg w7 hbox hb; have n0_ := Aside0.mk (below_step (by repeat (first | (with_reducible first | exact HB.out | apply below_alloc | apply pw_below_drewN | apply below_drew1) | exact HB.out)) hb); have n1_ := Aside0.mk (hbox); have n2_ := Aside0.mk ((by rw [hg]; exact (below_size (by repeat (first | (with_reducible first | exact HB.out | apply below_alloc | apply pw_below_drewN | apply below_drew1) | exact HB.out))) : w.heap.size ≤ gb188)); have n3_ := Aside0.mk ((by rw [hg]; exact (below_size (by repeat (first | (with_reducible first | exact HB.out | apply below_alloc | apply pw_below_drewN | apply below_drew1) | exact HB.out))) : w.heap.size ≤ gb188)); clear HB; have HB := n0_; have BK188 := n1_; have GW188 := n2_; have GE188 := n3_; clear n0_ n1_ n2_ n3_; clear hb hbox hg; have hcz8_0 : w7.cell? ⟨gb188, 0, none⟩ = some (.string (⟨#[]⟩ : ByteArray)) := (blk_cell BK188.out 0).trans rfl; have hcz8_1 : w7.cell? ⟨gb188, 1, none⟩ = some (.int .i64 0) := (blk_cell BK188.out 1).trans rfl; have hfz8_0 := blk_frozen BK188.out 0; have hfz8_1 := blk_frozen BK188.out 1))
            repeat (go_quiet (first | ((with_reducible refine gate_dst (N := 10) rfl ?_); refine box_event ?hg (N := 10) ?hd (cs := #[.string (⟨#[]⟩ : ByteArray), .int .i64 0]) (t := 46) ?hr ?_; (case hd => rfl); (case hg => rfl); (case hr => first | (go_simp; done) | (go_simp; rfl)); intro gb188 hg w7 hbox hb; have n0_ := Aside0.mk (below_step (by repeat (first | (with_reducible first | exact HB.out | apply below_alloc | apply pw_below_drewN | apply below_drew1) | exact HB.out)) hb); have n1_ := Aside0.mk (hbox); have n2_ := Aside0.mk ((by rw [hg]; exact (below_size (by repeat (first | (with_reducible first | exact HB.out | apply below_alloc | apply pw_below_drewN | apply below_drew1) | exact HB.out))) : w.heap.size ≤ gb188)); have n3_ := Aside0.mk ((by rw [hg]; exact (below_size (by repeat (first | (with_reducible first | exact HB.out | apply below_alloc | apply pw_below_drewN | apply below_drew1) | exact HB.out))) : w.heap.size ≤ gb188)); clear HB; have HB := n0_; have BK188 := n1_; have GW188 := n2_; have GE188 := n3_; clear n0_ n1_ n2_ n3_; clear hb hbox hg; have hcz8_0 : w7.cell? ⟨gb188, 0, none⟩ = some (.string (⟨#[]⟩ : ByteArray)) := (blk_cell BK188.out 0).trans rfl; have hcz8_1 : w7.cell? ⟨gb188, 1, none⟩ = some (.int .i64 0) := (blk_cell BK188.out 1).trans rfl; have hfz8_0 := blk_frozen BK188.out 0; have hfz8_1 := blk_frozen BK188.out 1)); go_upto_region 5 with (first | ((with_reducible refine gate_dst (N := 10) rfl ?_); refine box_event ?hg (N := 10) ?hd (cs := #[.string (⟨#[]⟩ : ByteArray), .int .i64 0]) (t := 46) ?hr ?_; (case hd => rfl); (case hg => rfl); (case hr => first | (go_simp; done) | (go_simp; rfl)); intro gb188 hg w7 hbox hb; have n0_ := Aside0.mk (below_step (by repeat (first | (with_reducible first | exact HB.out | apply below_alloc | apply pw_below_drewN | apply below_drew1) | exact HB.out)) hb); have n1_ := Aside0.mk (hbox); have n2_ := Aside0.mk ((by rw [hg]; exact (below_size (by repeat (first | (with_reducible first | exact HB.out | apply below_alloc | apply pw_below_drewN | apply below_drew1) | exact HB.out))) : w.heap.size ≤ gb188)); have n3_ := Aside0.mk ((by rw [hg]; exact (below_size (by repeat (first | (with_reducible first | exact HB.out | apply below_alloc | apply pw_below_drewN | apply below_drew1) | exact HB.out))) : w.heap.size ≤ gb188)); clear HB; have HB := n0_; have BK188 := n1_; have GW188 := n2_; have GE188 := n3_; clear n0_ n1_ n2_ n3_; clear hb hbox hg; have hcz8_0 : w7.cell? ⟨gb188, 0, none⟩ = some (.string (⟨#[]⟩ : ByteArray)) := (blk_cell BK188.out 0).trans rfl; have hcz8_1 : w7.cell? ⟨gb188, 1, none⟩ = some (.int .i64 0) := (blk_cell BK188.out 1).trans rfl; have hfz8_0 := blk_frozen BK188.out 0; have hfz8_1 := blk_frozen BK188.out 1)))
            (try simp only [Act.put, List.setIfInBounds_toArray, List.set_cons_zero, List.set_cons_succ])
            go_cut [24] (fun v24 wc => ∃ (kq : Nat) (x24_5 : Bool), v24 = .bool x24_5 ∧ Aside0 (keymap_Find.j1 kq a1 x6_1 x7_1 x8_1 l0 (l0.length : Int) x13_1 x24_5 ((rd_T46 l0 x13_1).f0) ((rd_T46 l0 x13_1).f1) = some (r1, r2)) ∧ Aside0 (kq ≤ k1) ∧ Aside0 (wc.heap[gb188]? = some (.cells #[.string ((rd_T46 l0 x13_1).f0), .int .i64 ((rd_T46 l0 x13_1).f1)] 46 (0, 0))) ∧ Aside0 (Below w.heap.size w wc))
            case first =>
              have H := HC6.out
              clear HC6
              by_cases c9 : ((rd_T46 l0 x13_1).f0).toList = a1.toList
              · rw [if_pos c9] at H
                have c9b0 : (((rd_T46 l0 x13_1).f0).toList == a1.toList) = true := beq_iff_eq.mpr c9
                have c9b1 : (((rd_T46 l0 x13_1).f0).toList != a1.toList) = false := bne_eq_false_iff_eq.mpr c9
                clear c9
                (first | rw [c9b0] | (simp only [i64_w, i32_w]; rw [c9b0]) | skip)
                have H' := Aside0.mk H
                clear H
                have hcz10_0 : w7.cell? ⟨gb188, 0, none⟩ = some (.string (⟨#[]⟩ : ByteArray)) := (blk_cell BK188.out 0).trans rfl
                have hcz10_1 : w7.cell? ⟨gb188, 1, none⟩ = some (.int .i64 0) := (blk_cell BK188.out 1).trans rfl
                have hfz10_0 := blk_frozen BK188.out 0
                have hfz10_1 := blk_frozen BK188.out 1
                go_wp2
                repeat (go_quiet (fail); try go_wp2)
                go_meet
                case rel => exact ⟨_, (!x6_1), (by first | rfl | (simp; done) | (simp [*]; done)), H', ⟨by have := HK1.out; first | omega | exact Nat.le_refl _⟩, ⟨by (with_reducible repeat (first | refine blk_drewN ?_ _ | refine blk_drew ?_ | refine blk_alloc ?_ _)); refine blk_put (cs := #[.string ((rd_T46 l0 x13_1).f0), .int .i64 0]) ?_ 1 _ rfl; (with_reducible repeat (first | refine blk_drewN ?_ _ | refine blk_drew ?_ | refine blk_alloc ?_ _)); refine blk_put (cs := #[.string (⟨#[]⟩ : ByteArray), .int .i64 0]) ?_ 0 _ rfl; (with_reducible repeat (first | refine blk_drewN ?_ _ | refine blk_drew ?_ | refine blk_alloc ?_ _)); exact BK188.out⟩, ⟨by repeat (first | (with_reducible first | exact HB.out | apply below_alloc | apply pw_below_drewN | apply below_drew1 | refine below_set ?_ GE188.out) | exact HB.out)⟩⟩
              · rw [if_neg c9] at H
                have c9b0 : (((rd_T46 l0 x13_1).f0).toList == a1.toList) = false := beq_eq_false_iff_ne.mpr c9
                have c9b1 : (((rd_T46 l0 x13_1).f0).toList != a1.toList) = true := bne_iff_ne.mpr c9
                (first | rw [c9b0] | (simp only [i64_w, i32_w]; rw [c9b0]) | skip)
                have H' := Aside0.mk H
                clear H
                have hcz11_0 : w7.cell? ⟨gb188, 0, none⟩ = some (.string (⟨#[]⟩ : ByteArray)) := (blk_cell BK188.out 0).trans rfl
                have hcz11_1 : w7.cell? ⟨gb188, 1, none⟩ = some (.int .i64 0) := (blk_cell BK188.out 1).trans rfl
                have hfz11_0 := blk_frozen BK188.out 0
                have hfz11_1 := blk_frozen BK188.out 1
                go_wp2
                repeat (go_quiet (fail); try go_wp2)
                go_meet
                case rel => exact ⟨_, (false), (by first | rfl | (simp; done) | (simp [*]; done)), H', ⟨by have := HK1.out; first | omega | exact Nat.le_refl _⟩, ⟨by (with_reducible repeat (first | refine blk_drewN ?_ _ | refine blk_drew ?_ | refine blk_alloc ?_ _)); refine blk_put (cs := #[.string ((rd_T46 l0 x13_1).f0), .int .i64 0]) ?_ 1 _ rfl; (with_reducible repeat (first | refine blk_drewN ?_ _ | refine blk_drew ?_ | refine blk_alloc ?_ _)); refine blk_put (cs := #[.string (⟨#[]⟩ : ByteArray), .int .i64 0]) ?_ 0 _ rfl; (with_reducible repeat (first | refine blk_drewN ?_ _ | refine blk_drew ?_ | refine blk_alloc ?_ _)); exact BK188.out⟩, ⟨by repeat (first | (with_reducible first | exact HB.out | apply below_alloc | apply pw_below_drewN | apply below_drew1 | refine below_set ?_ GE188.out) | exact HB.out)⟩⟩
            case rest =>
              clear HC6
              try clear p1
              try clear q1
              try clear hx1
              try clear p2
              try clear c3
              try clear c3b0
              try clear c4
              try clear c4b0
              try clear c5
              try clear c5b0
              try clear c9
              try clear c9b0
              try clear c9b1
              try clear hcz10_0
              try clear hcz10_1
              try clear hcz11_0
              try clear hcz11_1
              try clear hcz8_0
              try clear hcz8_1
              try clear hfz10_0
              try clear hfz10_1
              try clear hfz11_0
              try clear hfz11_1
              try clear hfz8_0
              try clear hfz8_1
              try clear hx187_0
              try clear hx187_1
              try clear p187
              try clear p2
              try clear q187
              obtain ⟨kq, x24_5, rfl, HA, HJ5, BK188, HB⟩ := hcut
              cases kq with
              | zero => exact absurd HA.out (by simp [keymap_Find.j1])
              | succ kj5 =>
                have H := HA.out
                clear HA
                simp only [keymap_Find.j1] at H
                by_cases c12 : x24_5 = true
                · subst c12
                  have H1 : (if (((rd_T46 l0 x13_1).f0).size : Int) > (a1.size : Int) then ((strings_HasPrefix.f ((rd_T46 l0 x13_1).f0) a1).bind fun t189 => (if t189 = true then (keymap_Find.l0 kj5 a1 true ((rd_T46 l0 x13_1).f1) 1 l0 (l0.length : Int) (wrap64 (x13_1 + 1))) else (keymap_Find.l0 kj5 a1 true ((rd_T46 l0 x13_1).f1) x8_1 l0 (l0.length : Int) (wrap64 (x13_1 + 1))))) else (keymap_Find.l0 kj5 a1 true ((rd_T46 l0 x13_1).f1) x8_1 l0 (l0.length : Int) (wrap64 (x13_1 + 1)))) = some (r1, r2) := by rw [if_pos rfl] at H; exact H
                  clear H
                  have H := H1
                  clear H1
                  by_cases c13 : (((rd_T46 l0 x13_1).f0).size : Int) > (a1.size : Int)
                  · rw [if_pos c13] at H
                    have c13b0 : decide ((a1.size : Int) < (((rd_T46 l0 x13_1).f0).size : Int)) = true := decide_eq_true c13
                    have c13b1 : decide (a1.size < ((rd_T46 l0 x13_1).f0).size) = true := decide_eq_true (Int.ofNat_lt.mp c13)
                    clear c13
                    replace H := Option.bind_eq_some_iff.mp H
                    obtain ⟨t189, A140, H⟩ := H
                    replace H : (if t189 = true then (keymap_Find.l0 kj5 a1 true ((rd_T46 l0 x13_1).f1) 1 l0 (l0.length : Int) (wrap64 (x13_1 + 1))) else (keymap_Find.l0 kj5 a1 true ((rd_T46 l0 x13_1).f1) x8_1 l0 (l0.length : Int) (wrap64 (x13_1 + 1)))) = some (r1, r2) := H
                    have A14 := Aside0.mk A140
                    clear A140
                    by_cases c15 : t189 = true
                    · subst c15
                      have H1 : (keymap_Find.l0 kj5 a1 true ((rd_T46 l0 x13_1).f1) 1 l0 (l0.length : Int) (wrap64 (x13_1 + 1))) = some (r1, r2) := by rw [if_pos rfl] at H; exact H
                      clear H
                      have H := H1
                      clear H1
                      have H' := Aside0.mk H
                      clear H
                      have hcz16_0 : wc.cell? ⟨gb188, 0, none⟩ = some (.string ((rd_T46 l0 x13_1).f0)) := (blk_cell BK188.out 0).trans rfl
                      have hcz16_1 : wc.cell? ⟨gb188, 1, none⟩ = some (.int .i64 ((rd_T46 l0 x13_1).f1)) := (blk_cell BK188.out 1).trans rfl
                      have hfz16_0 := blk_frozen BK188.out 0
                      have hfz16_1 := blk_frozen BK188.out 1
                      go_wp2_with (first | (go_at_call 56; (with_reducible refine (strings_HasPrefix.calls ((rd_T46 l0 x13_1).f0) a1 true _ A14.out).mono ?_); rintro e w' ⟨rfl, ⟨nd, rfl⟩⟩; (try first | exact ⟨rfl, _, World.drewN_drewN _ _ _⟩ | exact ⟨rfl, _, Eq.trans (World.drewN_drewN _ _ _) (congrArg (World.drewN _) (Nat.add_assoc _ _ _))⟩)))
                      repeat (go_quiet (first | (go_at_call 56; (with_reducible refine (strings_HasPrefix.calls ((rd_T46 l0 x13_1).f0) a1 true _ A14.out).mono ?_); rintro e w' ⟨rfl, ⟨nd, rfl⟩⟩; (try first | exact ⟨rfl, _, World.drewN_drewN _ _ _⟩ | exact ⟨rfl, _, Eq.trans (World.drewN_drewN _ _ _) (congrArg (World.drewN _) (Nat.add_assoc _ _ _))⟩))); try go_wp2_with (first | (go_at_call 56; (with_reducible refine (strings_HasPrefix.calls ((rd_T46 l0 x13_1).f0) a1 true _ A14.out).mono ?_); rintro e w' ⟨rfl, ⟨nd, rfl⟩⟩; (try first | exact ⟨rfl, _, World.drewN_drewN _ _ _⟩ | exact ⟨rfl, _, Eq.trans (World.drewN_drewN _ _ _) (congrArg (World.drewN _) (Nat.add_assoc _ _ _))⟩))))
                      go_roundg kj5
                      case measure => have := HK1.out; have := HJ5.out; omega
                      case rel => exact ⟨(true), (((rd_T46 l0 x13_1).f1)), (1), (wrap64 (x13_1 + 1)), (by first | rfl | (simp; done) | (simp [*]; done)), (by first | rfl | (simp; done) | (simp [*]; done)), (by first | rfl | (simp; done) | (simp [*]; done)), (by first | rfl | (simp; done) | (simp [*]; done)), H', ⟨by have := HK1.out; have := HJ5.out; omega⟩, ⟨by repeat (first | (with_reducible first | exact HB.out | apply below_alloc | apply pw_below_drewN | apply below_drew1 | refine below_set ?_ GE188.out) | exact HB.out)⟩⟩
                    · replace c15 := Bool.eq_false_iff.mpr c15
                      subst c15
                      have H1 : (keymap_Find.l0 kj5 a1 true ((rd_T46 l0 x13_1).f1) x8_1 l0 (l0.length : Int) (wrap64 (x13_1 + 1))) = some (r1, r2) := by rw [if_neg (show ¬ (false = true) by decide)] at H; exact H
                      clear H
                      have H := H1
                      clear H1
                      have H' := Aside0.mk H
                      clear H
                      have hcz17_0 : wc.cell? ⟨gb188, 0, none⟩ = some (.string ((rd_T46 l0 x13_1).f0)) := (blk_cell BK188.out 0).trans rfl
                      have hcz17_1 : wc.cell? ⟨gb188, 1, none⟩ = some (.int .i64 ((rd_T46 l0 x13_1).f1)) := (blk_cell BK188.out 1).trans rfl
                      have hfz17_0 := blk_frozen BK188.out 0
                      have hfz17_1 := blk_frozen BK188.out 1
                      go_wp2_with (first | (go_at_call 56; (with_reducible refine (strings_HasPrefix.calls ((rd_T46 l0 x13_1).f0) a1 false _ A14.out).mono ?_); rintro e w' ⟨rfl, ⟨nd, rfl⟩⟩; (try first | exact ⟨rfl, _, World.drewN_drewN _ _ _⟩ | exact ⟨rfl, _, Eq.trans (World.drewN_drewN _ _ _) (congrArg (World.drewN _) (Nat.add_assoc _ _ _))⟩)))
                      repeat (go_quiet (first | (go_at_call 56; (with_reducible refine (strings_HasPrefix.calls ((rd_T46 l0 x13_1).f0) a1 false _ A14.out).mono ?_); rintro e w' ⟨rfl, ⟨nd, rfl⟩⟩; (try first | exact ⟨rfl, _, World.drewN_drewN _ _ _⟩ | exact ⟨rfl, _, Eq.trans (World.drewN_drewN _ _ _) (congrArg (World.drewN _) (Nat.add_assoc _ _ _))⟩))); try go_wp2_with (first | (go_at_call 56; (with_reducible refine (strings_HasPrefix.calls ((rd_T46 l0 x13_1).f0) a1 false _ A14.out).mono ?_); rintro e w' ⟨rfl, ⟨nd, rfl⟩⟩; (try first | exact ⟨rfl, _, World.drewN_drewN _ _ _⟩ | exact ⟨rfl, _, Eq.trans (World.drewN_drewN _ _ _) (congrArg (World.drewN _) (Nat.add_assoc _ _ _))⟩))))
                      go_roundg kj5
                      case measure => have := HK1.out; have := HJ5.out; omega
                      case rel => exact ⟨(true), (((rd_T46 l0 x13_1).f1)), (x8_1), (wrap64 (x13_1 + 1)), (by first | rfl | (simp; done) | (simp [*]; done)), (by first | rfl | (simp; done) | (simp [*]; done)), (by first | rfl | (simp; done) | (simp [*]; done)), (by first | rfl | (simp; done) | (simp [*]; done)), H', ⟨by have := HK1.out; have := HJ5.out; omega⟩, ⟨by repeat (first | (with_reducible first | exact HB.out | apply below_alloc | apply pw_below_drewN | apply below_drew1 | refine below_set ?_ GE188.out) | exact HB.out)⟩⟩
                  · rw [if_neg c13] at H
                    have c13b0 : decide ((a1.size : Int) < (((rd_T46 l0 x13_1).f0).size : Int)) = false := decide_eq_false c13
                    have c13b1 : decide (a1.size < ((rd_T46 l0 x13_1).f0).size) = false := decide_eq_false (fun h => c13 (Int.ofNat_lt.mpr h))
                    clear c13
                    have H' := Aside0.mk H
                    clear H
                    have hcz18_0 : wc.cell? ⟨gb188, 0, none⟩ = some (.string ((rd_T46 l0 x13_1).f0)) := (blk_cell BK188.out 0).trans rfl
                    have hcz18_1 : wc.cell? ⟨gb188, 1, none⟩ = some (.int .i64 ((rd_T46 l0 x13_1).f1)) := (blk_cell BK188.out 1).trans rfl
                    have hfz18_0 := blk_frozen BK188.out 0
                    have hfz18_1 := blk_frozen BK188.out 1
                    go_wp2
                    repeat (go_quiet (fail); try go_wp2)
                    go_roundg kj5
                    case measure => have := HK1.out; have := HJ5.out; omega
                    case rel => exact ⟨(true), (((rd_T46 l0 x13_1).f1)), (x8_1), (wrap64 (x13_1 + 1)), (by first | rfl | (simp; done) | (simp [*]; done)), (by first | rfl | (simp; done) | (simp [*]; done)), (by first | rfl | (simp; done) | (simp [*]; done)), (by first | rfl | (simp; done) | (simp [*]; done)), H', ⟨by have := HK1.out; have := HJ5.out; omega⟩, ⟨by repeat (first | (with_reducible first | exact HB.out | apply below_alloc | apply pw_below_drewN | apply below_drew1 | refine below_set ?_ GE188.out) | exact HB.out)⟩⟩
                · replace c12 := Bool.eq_false_iff.mpr c12
                  subst c12
                  have H1 : (if (((rd_T46 l0 x13_1).f0).size : Int) > (a1.size : Int) then ((strings_HasPrefix.f ((rd_T46 l0 x13_1).f0) a1).bind fun t190 => (if t190 = true then (keymap_Find.l0 kj5 a1 x6_1 x7_1 1 l0 (l0.length : Int) (wrap64 (x13_1 + 1))) else (keymap_Find.l0 kj5 a1 x6_1 x7_1 x8_1 l0 (l0.length : Int) (wrap64 (x13_1 + 1))))) else (keymap_Find.l0 kj5 a1 x6_1 x7_1 x8_1 l0 (l0.length : Int) (wrap64 (x13_1 + 1)))) = some (r1, r2) := by rw [if_neg (show ¬ (false = true) by decide)] at H; exact H
                  clear H
                  have H := H1
                  clear H1
                  by_cases c19 : (((rd_T46 l0 x13_1).f0).size : Int) > (a1.size : Int)
                  · rw [if_pos c19] at H
                    have c19b0 : decide ((a1.size : Int) < (((rd_T46 l0 x13_1).f0).size : Int)) = true := decide_eq_true c19
                    have c19b1 : decide (a1.size < ((rd_T46 l0 x13_1).f0).size) = true := decide_eq_true (Int.ofNat_lt.mp c19)
                    clear c19
                    replace H := Option.bind_eq_some_iff.mp H
                    obtain ⟨t190, A200, H⟩ := H
                    replace H : (if t190 = true then (keymap_Find.l0 kj5 a1 x6_1 x7_1 1 l0 (l0.length : Int) (wrap64 (x13_1 + 1))) else (keymap_Find.l0 kj5 a1 x6_1 x7_1 x8_1 l0 (l0.length : Int) (wrap64 (x13_1 + 1)))) = some (r1, r2) := H
                    have A20 := Aside0.mk A200
                    clear A200
                    by_cases c21 : t190 = true
                    · subst c21
                      have H1 : (keymap_Find.l0 kj5 a1 x6_1 x7_1 1 l0 (l0.length : Int) (wrap64 (x13_1 + 1))) = some (r1, r2) := by rw [if_pos rfl] at H; exact H
                      clear H
                      have H := H1
                      clear H1
                      have H' := Aside0.mk H
                      clear H
                      have hcz22_0 : wc.cell? ⟨gb188, 0, none⟩ = some (.string ((rd_T46 l0 x13_1).f0)) := (blk_cell BK188.out 0).trans rfl
                      have hcz22_1 : wc.cell? ⟨gb188, 1, none⟩ = some (.int .i64 ((rd_T46 l0 x13_1).f1)) := (blk_cell BK188.out 1).trans rfl
                      have hfz22_0 := blk_frozen BK188.out 0
                      have hfz22_1 := blk_frozen BK188.out 1
                      go_wp2_with (first | (go_at_call 56; (with_reducible refine (strings_HasPrefix.calls ((rd_T46 l0 x13_1).f0) a1 true _ A20.out).mono ?_); rintro e w' ⟨rfl, ⟨nd, rfl⟩⟩; (try first | exact ⟨rfl, _, World.drewN_drewN _ _ _⟩ | exact ⟨rfl, _, Eq.trans (World.drewN_drewN _ _ _) (congrArg (World.drewN _) (Nat.add_assoc _ _ _))⟩)))
                      repeat (go_quiet (first | (go_at_call 56; (with_reducible refine (strings_HasPrefix.calls ((rd_T46 l0 x13_1).f0) a1 true _ A20.out).mono ?_); rintro e w' ⟨rfl, ⟨nd, rfl⟩⟩; (try first | exact ⟨rfl, _, World.drewN_drewN _ _ _⟩ | exact ⟨rfl, _, Eq.trans (World.drewN_drewN _ _ _) (congrArg (World.drewN _) (Nat.add_assoc _ _ _))⟩))); try go_wp2_with (first | (go_at_call 56; (with_reducible refine (strings_HasPrefix.calls ((rd_T46 l0 x13_1).f0) a1 true _ A20.out).mono ?_); rintro e w' ⟨rfl, ⟨nd, rfl⟩⟩; (try first | exact ⟨rfl, _, World.drewN_drewN _ _ _⟩ | exact ⟨rfl, _, Eq.trans (World.drewN_drewN _ _ _) (congrArg (World.drewN _) (Nat.add_assoc _ _ _))⟩))))
                      go_roundg kj5
                      case measure => have := HK1.out; have := HJ5.out; omega
                      case rel => exact ⟨(x6_1), (x7_1), (1), (wrap64 (x13_1 + 1)), (by first | rfl | (simp; done) | (simp [*]; done)), (by first | rfl | (simp; done) | (simp [*]; done)), (by first | rfl | (simp; done) | (simp [*]; done)), (by first | rfl | (simp; done) | (simp [*]; done)), H', ⟨by have := HK1.out; have := HJ5.out; omega⟩, ⟨by repeat (first | (with_reducible first | exact HB.out | apply below_alloc | apply pw_below_drewN | apply below_drew1 | refine below_set ?_ GE188.out) | exact HB.out)⟩⟩
                    · replace c21 := Bool.eq_false_iff.mpr c21
                      subst c21
                      have H1 : (keymap_Find.l0 kj5 a1 x6_1 x7_1 x8_1 l0 (l0.length : Int) (wrap64 (x13_1 + 1))) = some (r1, r2) := by rw [if_neg (show ¬ (false = true) by decide)] at H; exact H
                      clear H
                      have H := H1
                      clear H1
                      have H' := Aside0.mk H
                      clear H
                      have hcz23_0 : wc.cell? ⟨gb188, 0, none⟩ = some (.string ((rd_T46 l0 x13_1).f0)) := (blk_cell BK188.out 0).trans rfl
                      have hcz23_1 : wc.cell? ⟨gb188, 1, none⟩ = some (.int .i64 ((rd_T46 l0 x13_1).f1)) := (blk_cell BK188.out 1).trans rfl
                      have hfz23_0 := blk_frozen BK188.out 0
                      have hfz23_1 := blk_frozen BK188.out 1
                      go_wp2_with (first | (go_at_call 56; (with_reducible refine (strings_HasPrefix.calls ((rd_T46 l0 x13_1).f0) a1 false _ A20.out).mono ?_); rintro e w' ⟨rfl, ⟨nd, rfl⟩⟩; (try first | exact ⟨rfl, _, World.drewN_drewN _ _ _⟩ | exact ⟨rfl, _, Eq.trans (World.drewN_drewN _ _ _) (congrArg (World.drewN _) (Nat.add_assoc _ _ _))⟩)))
                      repeat (go_quiet (first | (go_at_call 56; (with_reducible refine (strings_HasPrefix.calls ((rd_T46 l0 x13_1).f0) a1 false _ A20.out).mono ?_); rintro e w' ⟨rfl, ⟨nd, rfl⟩⟩; (try first | exact ⟨rfl, _, World.drewN_drewN _ _ _⟩ | exact ⟨rfl, _, Eq.trans (World.drewN_drewN _ _ _) (congrArg (World.drewN _) (Nat.add_assoc _ _ _))⟩))); try go_wp2_with (first | (go_at_call 56; (with_reducible refine (strings_HasPrefix.calls ((rd_T46 l0 x13_1).f0) a1 false _ A20.out).mono ?_); rintro e w' ⟨rfl, ⟨nd, rfl⟩⟩; (try first | exact ⟨rfl, _, World.drewN_drewN _ _ _⟩ | exact ⟨rfl, _, Eq.trans (World.drewN_drewN _ _ _) (congrArg (World.drewN _) (Nat.add_assoc _ _ _))⟩))))
                      go_roundg kj5
                      case measure => have := HK1.out; have := HJ5.out; omega
                      case rel => exact ⟨(x6_1), (x7_1), (x8_1), (wrap64 (x13_1 + 1)), (by first | rfl | (simp; done) | (simp [*]; done)), (by first | rfl | (simp; done) | (simp [*]; done)), (by first | rfl | (simp; done) | (simp [*]; done)), (by first | rfl | (simp; done) | (simp [*]; done)), H', ⟨by have := HK1.out; have := HJ5.out; omega⟩, ⟨by repeat (first | (with_reducible first | exact HB.out | apply below_alloc | apply pw_below_drewN | apply below_drew1 | refine below_set ?_ GE188.out) | exact HB.out)⟩⟩
                  · rw [if_neg c19] at H
                    have c19b0 : decide ((a1.size : Int) < (((rd_T46 l0 x13_1).f0).size : Int)) = false := decide_eq_false c19
                    have c19b1 : decide (a1.size < ((rd_T46 l0 x13_1).f0).size) = false := decide_eq_false (fun h => c19 (Int.ofNat_lt.mpr h))
                    clear c19
                    have H' := Aside0.mk H
                    clear H
                    have hcz24_0 : wc.cell? ⟨gb188, 0, none⟩ = some (.string ((rd_T46 l0 x13_1).f0)) := (blk_cell BK188.out 0).trans rfl
                    have hcz24_1 : wc.cell? ⟨gb188, 1, none⟩ = some (.int .i64 ((rd_T46 l0 x13_1).f1)) := (blk_cell BK188.out 1).trans rfl
                    have hfz24_0 := blk_frozen BK188.out 0
                    have hfz24_1 := blk_frozen BK188.out 1
                    go_wp2
                    repeat (go_quiet (fail); try go_wp2)
                    go_roundg kj5
                    case measure => have := HK1.out; have := HJ5.out; omega
                    case rel => exact ⟨(x6_1), (x7_1), (x8_1), (wrap64 (x13_1 + 1)), (by first | rfl | (simp; done) | (simp [*]; done)), (by first | rfl | (simp; done) | (simp [*]; done)), (by first | rfl | (simp; done) | (simp [*]; done)), (by first | rfl | (simp; done) | (simp [*]; done)), H', ⟨by have := HK1.out; have := HJ5.out; omega⟩, ⟨by repeat (first | (with_reducible first | exact HB.out | apply below_alloc | apply pw_below_drewN | apply below_drew1 | refine below_set ?_ GE188.out) | exact HB.out)⟩⟩
          · rw [if_neg c5] at H
            exact absurd H (by simp)
        · rw [if_neg c4] at H
          exact absurd H (by simp)
      · rw [if_neg c3] at H
        have c3b0 : decide (x13_1 < (l0.length : Int)) = false := decide_eq_false c3
        clear c3
        simp only [Option.some.injEq, Prod.mk.injEq] at H
        obtain ⟨rfl, rfl⟩ := H
        go_wp2
        repeat (go_quiet (fail); try go_wp2)
        go_ret2
        exact ⟨by first | rfl | (simp [errW_none, errW_some] <;> rfl) | (simp [*, errW_none, errW_some] <;> rfl), by repeat (first | (with_reducible first | exact HB.out | apply below_alloc | apply pw_below_drewN | apply below_drew1) | exact HB.out)⟩

def editor_left.j0 : Nat → ByteArray → Int → Bool → Option (Bool)
  | 0, _, _, _ => none
  | k + 1, x1, x5, x6 => if x6 = true then (some true) else (if x5 = 23 then (some (x1.toList == ([] : List UInt8))) else (some false))
def editor_left.f (k : Nat) (a0 : Int) (a1 : ByteArray) : Option (Bool) := if a0 = 2 then (editor_left.j0 k a1 a0 (a0 == 2)) else (if a0 = 24 then (editor_left.j0 k a1 a0 (a0 == 24)) else (editor_left.j0 k a1 a0 (a0 == 22)))
set_option maxHeartbeats 8000000 in
set_option maxRecDepth 100000 in
theorem editor_left.calls (k : Nat) (a0 : Int) (a1 : ByteArray) (r : Bool) (w : World) (h : editor_left.f k a0 a1 = some r) :
    Calls Try.prog 33 #[.int .i64 a0, .string a1] w fun e w' => e = .returned (.bool r) ∧ Drawn0 w w' := by
  have H : (if a0 = 2 then (editor_left.j0 k a1 a0 (a0 == 2)) else (if a0 = 24 then (editor_left.j0 k a1 a0 (a0 == 24)) else (editor_left.j0 k a1 a0 (a0 == 22)))) = some r := h
  clear h
  have HC3 := Aside0.mk H
  clear H
  go_enter Try.func33, Try.ntmps33
  go_upto_if 6 with (fail)
  go_cut [6] (fun v6 wc => ∃ (kq : Nat) (x6_2 : Bool), v6 = .bool x6_2 ∧ Aside0 (editor_left.j0 kq a1 a0 x6_2 = some r) ∧ Aside0 (kq ≤ k) ∧ Drawn0 w wc)
  case first =>
    have H := HC3.out
    clear HC3
    by_cases c4 : a0 = 2
    · rw [if_pos c4] at H
      have c4b0 : (a0 == 2) = true := beq_iff_eq.mpr c4
      have c4b1 : (a0 != 2) = false := bne_eq_false_iff_eq.mpr c4
      clear c4
      (first | rw [c4b0] | (simp only [i64_w, i32_w]; rw [c4b0]) | skip)
      have H' := Aside0.mk H
      clear H
      go_wp2
      go_meet
      case rel => exact ⟨_, ((a0 == 2)), (by first | rfl | (simp; done) | (simp [*]; done)), H', ⟨by first | omega | exact Nat.le_refl _⟩, by repeat (first | exact Drawn0.refl _ | apply Drawn0.step)⟩
    · rw [if_neg c4] at H
      have c4b0 : (a0 == 2) = false := beq_eq_false_iff_ne.mpr c4
      have c4b1 : (a0 != 2) = true := bne_iff_ne.mpr c4
      (first | rw [c4b0] | (simp only [i64_w, i32_w]; rw [c4b0]) | skip)
      by_cases c5 : a0 = 24
      · rw [if_pos c5] at H
        have c5b0 : (a0 == 24) = true := beq_iff_eq.mpr c5
        have c5b1 : (a0 != 24) = false := bne_eq_false_iff_eq.mpr c5
        clear c5
        have H' := Aside0.mk H
        clear H
        go_wp2
        go_meet
        case rel => exact ⟨_, ((a0 == 24)), (by first | rfl | (simp; done) | (simp [*]; done)), H', ⟨by first | omega | exact Nat.le_refl _⟩, by repeat (first | exact Drawn0.refl _ | apply Drawn0.step)⟩
      · rw [if_neg c5] at H
        have c5b0 : (a0 == 24) = false := beq_eq_false_iff_ne.mpr c5
        have c5b1 : (a0 != 24) = true := bne_iff_ne.mpr c5
        have H' := Aside0.mk H
        clear H
        go_wp2
        go_meet
        case rel => exact ⟨_, ((a0 == 22)), (by first | rfl | (simp; done) | (simp [*]; done)), H', ⟨by first | omega | exact Nat.le_refl _⟩, by repeat (first | exact Drawn0.refl _ | apply Drawn0.step)⟩
  case rest =>
    clear HC3
    try clear p2
    try clear c3
    try clear c4
    try clear c4b0
    try clear c4b1
    try clear c5
    try clear c5b0
    try clear c5b1
    obtain ⟨kq, x6_2, rfl, HA, HJ2, ⟨mc2, rfl⟩⟩ := hcut
    cases kq with
    | zero => exact absurd HA.out (by simp [editor_left.j0])
    | succ kj2 =>
      have H := HA.out
      clear HA
      simp only [editor_left.j0] at H
      by_cases c6 : x6_2 = true
      · subst c6
        have H1 : (some true) = some r := by rw [if_pos rfl] at H; exact H
        clear H
        have H := H1
        clear H1
        obtain rfl := Option.some.inj H
        go_wp2
        go_ret
        exact ⟨by first | rfl | (simp; done) | (simp [*]; done), by repeat (first | exact Drawn0.refl _ | apply Drawn0.step)⟩
      · replace c6 := Bool.eq_false_iff.mpr c6
        subst c6
        have H1 : (if a0 = 23 then (some (a1.toList == ([] : List UInt8))) else (some false)) = some r := by rw [if_neg (show ¬ (false = true) by decide)] at H; exact H
        clear H
        have H := H1
        clear H1
        by_cases c7 : a0 = 23
        · rw [if_pos c7] at H
          have c7b0 : (a0 == 23) = true := beq_iff_eq.mpr c7
          have c7b1 : (a0 != 23) = false := bne_eq_false_iff_eq.mpr c7
          clear c7
          obtain rfl := Option.some.inj H
          go_wp2
          go_ret
          exact ⟨by first | rfl | (simp; done) | (simp [*]; done), by repeat (first | exact Drawn0.refl _ | apply Drawn0.step)⟩
        · rw [if_neg c7] at H
          have c7b0 : (a0 == 23) = false := beq_eq_false_iff_ne.mpr c7
          have c7b1 : (a0 != 23) = true := bne_iff_ne.mpr c7
          obtain rfl := Option.some.inj H
          go_wp2
          go_ret
          exact ⟨by first | rfl | (simp; done) | (simp [*]; done), by repeat (first | exact Drawn0.refl _ | apply Drawn0.step)⟩

-- NOT PRINTED: function 10 (jobshelllaw46_awake)

def jobshellref46_snap.f (a0_0 : ByteArray) (a0_1 : Int) (a1 : Int) : Option (Bool) := if a1 = 3 then (some (decide ((a0_0.size : Int) ≤ 4096))) else (if a0_1 ≥ 0 then (some (decide (a0_1 ≤ (a0_0.size : Int)))) else (some false))
set_option maxHeartbeats 8000000 in
set_option maxRecDepth 100000 in
theorem jobshellref46_snap.calls (a0_0 : ByteArray) (a0_1 : Int) (a1 : Int) (r : Bool) (w : World) (h : jobshellref46_snap.f a0_0 a0_1 a1 = some r) :
    Calls Try.prog 23 #[.agg #[.string a0_0, .int .i64 a0_1], .int .i64 a1] w fun e w' => e = .returned (.bool r) ∧ Below w.heap.size w w' := by
  have hu23 := Try.underlying23
  have HB := Aside0.mk (Below.refl w.heap.size w)
  have H : (if a1 = 3 then (some (decide ((a0_0.size : Int) ≤ 4096))) else (if a0_1 ≥ 0 then (some (decide (a0_1 ≤ (a0_0.size : Int)))) else (some false))) = some r := h
  clear h
  by_cases c3 : a1 = 3
  · rw [if_pos c3] at H
    have c3b0 : (a1 == 3) = true := beq_iff_eq.mpr c3
    have c3b1 : (a1 != 3) = false := bne_eq_false_iff_eq.mpr c3
    clear c3
    obtain rfl := Option.some.inj H
    go_enter Try.func23, Try.ntmps23
    go_wp2_with (first | ((with_reducible refine gate_dst (N := 2) rfl ?_); (try (refine gate_guard (by rfl) ?_; dsimp only)); refine box_event ?hg (N := 2) ?hd (cs := #[.string a0_0, .int .i64 a0_1]) (t := 23) ?hr ?_; (case hd => rfl); (case hg => rfl); (case hr => first | (go_simp; done) | (go_simp; rfl)); intro gb336 hg w4 hbox hb; have n0_ := Aside0.mk (below_step (by repeat (first | (with_reducible first | exact HB.out | apply below_alloc | apply pw_below_drewN | apply below_drew1) | exact HB.out)) hb); have n1_ := Aside0.mk (hbox); have n2_ := Aside0.mk ((by rw [hg]; exact (below_size (by repeat (first | (with_reducible first | exact HB.out | apply below_alloc | apply pw_below_drewN | apply below_drew1) | exact HB.out))) : w.heap.size ≤ gb336)); have n3_ := Aside0.mk ((by rw [hg]; exact (below_size (by repeat (first | (with_reducible first | exact HB.out | apply below_alloc | apply pw_below_drewN | apply below_drew1) | exact HB.out))) : w.heap.size ≤ gb336)); clear HB; have HB := n0_; have BK336 := n1_; have GW336 := n2_; have GE336 := n3_; clear n0_ n1_ n2_ n3_; clear hb hbox hg; have hcz5_0 : w4.cell? ⟨gb336, 0, none⟩ = some (.string a0_0) := (blk_cell BK336.out 0).trans rfl; have hcz5_1 : w4.cell? ⟨gb336, 1, none⟩ = some (.int .i64 a0_1) := (blk_cell BK336.out 1).trans rfl; have hfz5_0 := blk_frozen BK336.out 0; have hfz5_1 := blk_frozen BK336.out 1))
    go_ret
    exact ⟨by first | rfl | (simp [errW_none, errW_some] <;> rfl) | (simp [*, errW_none, errW_some] <;> rfl), by repeat (first | (with_reducible first | exact HB.out | apply below_alloc | apply pw_below_drewN | apply below_drew1 | refine below_set ?_ GE336.out) | exact HB.out)⟩
  · rw [if_neg c3] at H
    have c3b0 : (a1 == 3) = false := beq_eq_false_iff_ne.mpr c3
    have c3b1 : (a1 != 3) = true := bne_iff_ne.mpr c3
    by_cases c6 : a0_1 ≥ 0
    · rw [if_pos c6] at H
      have c6b0 : decide (0 ≤ a0_1) = true := decide_eq_true c6
      clear c6
      obtain rfl := Option.some.inj H
      go_enter Try.func23, Try.ntmps23
      go_wp2_with (first | ((with_reducible refine gate_dst (N := 2) rfl ?_); (try (refine gate_guard (by rfl) ?_; dsimp only)); refine box_event ?hg (N := 2) ?hd (cs := #[.string a0_0, .int .i64 a0_1]) (t := 23) ?hr ?_; (case hd => rfl); (case hg => rfl); (case hr => first | (go_simp; done) | (go_simp; rfl)); intro gb336 hg w7 hbox hb; have n0_ := Aside0.mk (below_step (by repeat (first | (with_reducible first | exact HB.out | apply below_alloc | apply pw_below_drewN | apply below_drew1) | exact HB.out)) hb); have n1_ := Aside0.mk (hbox); have n2_ := Aside0.mk ((by rw [hg]; exact (below_size (by repeat (first | (with_reducible first | exact HB.out | apply below_alloc | apply pw_below_drewN | apply below_drew1) | exact HB.out))) : w.heap.size ≤ gb336)); have n3_ := Aside0.mk ((by rw [hg]; exact (below_size (by repeat (first | (with_reducible first | exact HB.out | apply below_alloc | apply pw_below_drewN | apply below_drew1) | exact HB.out))) : w.heap.size ≤ gb336)); clear HB; have HB := n0_; have BK336 := n1_; have GW336 := n2_; have GE336 := n3_; clear n0_ n1_ n2_ n3_; clear hb hbox hg; have hcz8_0 : w7.cell? ⟨gb336, 0, none⟩ = some (.string a0_0) := (blk_cell BK336.out 0).trans rfl; have hcz8_1 : w7.cell? ⟨gb336, 1, none⟩ = some (.int .i64 a0_1) := (blk_cell BK336.out 1).trans rfl; have hfz8_0 := blk_frozen BK336.out 0; have hfz8_1 := blk_frozen BK336.out 1))
      go_ret
      exact ⟨by first | rfl | (simp [errW_none, errW_some] <;> rfl) | (simp [*, errW_none, errW_some] <;> rfl), by repeat (first | (with_reducible first | exact HB.out | apply below_alloc | apply pw_below_drewN | apply below_drew1 | refine below_set ?_ GE336.out) | exact HB.out)⟩
    · rw [if_neg c6] at H
      have c6b0 : decide (0 ≤ a0_1) = false := decide_eq_false c6
      clear c6
      obtain rfl := Option.some.inj H
      go_enter Try.func23, Try.ntmps23
      go_wp2_with (first | ((with_reducible refine gate_dst (N := 2) rfl ?_); (try (refine gate_guard (by rfl) ?_; dsimp only)); refine box_event ?hg (N := 2) ?hd (cs := #[.string a0_0, .int .i64 a0_1]) (t := 23) ?hr ?_; (case hd => rfl); (case hg => rfl); (case hr => first | (go_simp; done) | (go_simp; rfl)); intro gb336 hg w9 hbox hb; have n0_ := Aside0.mk (below_step (by repeat (first | (with_reducible first | exact HB.out | apply below_alloc | apply pw_below_drewN | apply below_drew1) | exact HB.out)) hb); have n1_ := Aside0.mk (hbox); have n2_ := Aside0.mk ((by rw [hg]; exact (below_size (by repeat (first | (with_reducible first | exact HB.out | apply below_alloc | apply pw_below_drewN | apply below_drew1) | exact HB.out))) : w.heap.size ≤ gb336)); have n3_ := Aside0.mk ((by rw [hg]; exact (below_size (by repeat (first | (with_reducible first | exact HB.out | apply below_alloc | apply pw_below_drewN | apply below_drew1) | exact HB.out))) : w.heap.size ≤ gb336)); clear HB; have HB := n0_; have BK336 := n1_; have GW336 := n2_; have GE336 := n3_; clear n0_ n1_ n2_ n3_; clear hb hbox hg; have hcz10_0 : w9.cell? ⟨gb336, 0, none⟩ = some (.string a0_0) := (blk_cell BK336.out 0).trans rfl; have hcz10_1 : w9.cell? ⟨gb336, 1, none⟩ = some (.int .i64 a0_1) := (blk_cell BK336.out 1).trans rfl; have hfz10_0 := blk_frozen BK336.out 0; have hfz10_1 := blk_frozen BK336.out 1))
      go_ret
      exact ⟨by first | rfl | (simp [errW_none, errW_some] <;> rfl) | (simp [*, errW_none, errW_some] <;> rfl), by repeat (first | (with_reducible first | exact HB.out | apply below_alloc | apply pw_below_drewN | apply below_drew1 | refine below_set ?_ GE336.out) | exact HB.out)⟩

def jobshellref46_short.l0 : Nat → List ByteArray → Int → Option (Bool)
  | 0, _, _ => none
  | k + 1, x0, x3 => if x3 < (x0.length : Int) then (if 0 ≤ x3 then (if ((rdOf ByteArray.empty x0 x3).size : Int) > 4096 then (some false) else (jobshellref46_short.l0 k x0 (wrap64 (x3 + 1)))) else (none)) else (some true)
def jobshellref46_short.f (k : Nat) (l0 : List ByteArray) : Option (Bool) := jobshellref46_short.l0 k l0 0
set_option maxHeartbeats 8000000 in
set_option maxRecDepth 100000 in
theorem jobshellref46_short.calls (k : Nat) (A0 : Option Addr) (c0 : Nat) (l0 : List ByteArray) (r : Bool) (w : World) (hr0 : Kd.C Kd.string w A0 l0.length l0) (hc0 : l0.length ≤ c0) (h : jobshellref46_short.f k l0 = some r) :
    Calls Try.prog 24 #[.slice A0 l0.length c0] w fun e w' => e = .returned (.bool r) ∧ Drawn0 w w' := by
  have HR0 := Aside0.mk hr0
  have HC0 := Aside0.mk hc0
  clear hr0 hc0
  have H : (jobshellref46_short.l0 k l0 0) = some r := h
  clear h
  have H' := Aside0.mk H
  clear H
  go_enter Try.func24, Try.ntmps24
  go_wp2
  go_loopg [3] k (fun kq v3 w' => ∃ (x3_1 : Int), v3 = .int .i64 x3_1 ∧ Aside0 (jobshellref46_short.l0 kq l0 x3_1 = some r) ∧ Aside0 (kq ≤ k) ∧ Drawn0 w w')
  case atStart => exact ⟨(0), (by first | rfl | (simp; done) | (simp [*]; done)), H', ⟨Nat.le_refl _⟩, by repeat (first | exact Drawn0.refl _ | apply Drawn0.step)⟩
  case round =>
    clear H'
    obtain ⟨x3_1, rfl, HA, HK1, ⟨m1, rfl⟩⟩ := hrel
    cases gk with
    | zero => exact absurd HA.out (by simp [jobshellref46_short.l0])
    | succ k1 =>
      have H := HA.out
      clear HA
      simp only [jobshellref46_short.l0] at H
      by_cases c2 : x3_1 < (l0.length : Int)
      · rw [if_pos c2] at H
        have c2b0 : decide (x3_1 < (l0.length : Int)) = true := decide_eq_true c2
        clear c2
        by_cases c3 : 0 ≤ x3_1
        · rw [if_pos c3] at H
          have c3b0 : decide (0 ≤ x3_1) = true := decide_eq_true c3
          clear c3
          by_cases c4 : ((rdOf ByteArray.empty l0 x3_1).size : Int) > 4096
          · rw [if_pos c4] at H
            have c4b0 : decide (4096 < ((rdOf ByteArray.empty l0 x3_1).size : Int)) = true := decide_eq_true c4
            have c4b1 : decide (4096 < (rdOf ByteArray.empty l0 x3_1).size) = true := decide_eq_true (by omega)
            clear c4
            obtain rfl := Option.some.inj H
            have p337 : 0 ≤ (x3_1 : Int) := of_decide_eq_true (by first | (with_reducible assumption) | assumption)
            have q337 : x3_1 < (l0.length : Int) := of_decide_eq_true (by first | (with_reducible assumption) | assumption)
            obtain ⟨ad337, e337, hx337_0⟩ := Kd.at_string HR0.out x3_1 p337 q337
            cases e337
            replace p337 := eq_true p337
            replace q337 := eq_true q337
            go_wp2
            go_ret
            exact ⟨by first | rfl | (simp; done) | (simp [*]; done), by repeat (first | exact Drawn0.refl _ | apply Drawn0.step)⟩
          · rw [if_neg c4] at H
            have c4b0 : decide (4096 < ((rdOf ByteArray.empty l0 x3_1).size : Int)) = false := decide_eq_false c4
            have c4b1 : decide (4096 < (rdOf ByteArray.empty l0 x3_1).size) = false := decide_eq_false (by omega)
            clear c4
            have H' := Aside0.mk H
            clear H
            have p337 : 0 ≤ (x3_1 : Int) := of_decide_eq_true (by first | (with_reducible assumption) | assumption)
            have q337 : x3_1 < (l0.length : Int) := of_decide_eq_true (by first | (with_reducible assumption) | assumption)
            obtain ⟨ad337, e337, hx337_0⟩ := Kd.at_string HR0.out x3_1 p337 q337
            cases e337
            replace p337 := eq_true p337
            replace q337 := eq_true q337
            go_wp2
            go_roundg k1
            case measure => have := HK1.out; omega
            case rel => exact ⟨(wrap64 (x3_1 + 1)), (by first | rfl | (simp; done) | (simp [*]; done)), H', ⟨by have := HK1.out; omega⟩, by repeat (first | exact Drawn0.refl _ | apply Drawn0.step)⟩
        · rw [if_neg c3] at H
          exact absurd H (by simp)
      · rw [if_neg c2] at H
        have c2b0 : decide (x3_1 < (l0.length : Int)) = false := decide_eq_false c2
        clear c2
        obtain rfl := Option.some.inj H
        go_wp2
        go_ret
        exact ⟨by first | rfl | (simp; done) | (simp [*]; done), by repeat (first | exact Drawn0.refl _ | apply Drawn0.step)⟩

def jobshellref46_snaps.l0 : Nat → List (S23) → Int → Int → Option (Bool)
  | 0, _, _, _ => none
  | k + 1, x0, x1, x5 => if x5 < (x0.length : Int) then (if 0 ≤ x5 then ((jobshellref46_snap.f ((rd_T23 x0 x5).f0) ((rd_T23 x0 x5).f1) x1).bind fun t339 => (if t339 = true then (jobshellref46_snaps.l0 k x0 x1 (wrap64 (x5 + 1))) else (some false))) else (none)) else (some true)
def jobshellref46_snaps.f (k : Nat) (l0 : List (S23)) (a1 : Int) : Option (Bool) := jobshellref46_snaps.l0 k l0 a1 0
set_option maxHeartbeats 8000000 in
set_option maxRecDepth 100000 in
theorem jobshellref46_snaps.calls (k : Nat) (A0 : Option Addr) (c0 : Nat) (l0 : List (S23)) (a1 : Int) (r : Bool) (w : World) (hr0 : Kd.C k23 w A0 l0.length l0) (hc0 : l0.length ≤ c0) (h : jobshellref46_snaps.f k l0 a1 = some r) :
    Calls Try.prog 25 #[.slice A0 l0.length c0, .int .i64 a1] w fun e w' => e = .returned (.bool r) ∧ Below w.heap.size w w' := by
  have hu23 := Try.underlying23
  have HR0 := Aside0.mk hr0
  have HC0 := Aside0.mk hc0
  clear hr0 hc0
  have HB := Aside0.mk (Below.refl w.heap.size w)
  have H : (jobshellref46_snaps.l0 k l0 a1 0) = some r := h
  clear h
  have H' := Aside0.mk H
  clear H
  go_enter Try.func25, Try.ntmps25
  go_wp2
  go_loopg [5] k (fun kq v5 w' => ∃ (x5_1 : Int), v5 = .int .i64 x5_1 ∧ Aside0 (jobshellref46_snaps.l0 kq l0 a1 x5_1 = some r) ∧ Aside0 (kq ≤ k) ∧ Aside0 (Below w.heap.size w w'))
  case atStart => exact ⟨(0), (by first | rfl | (simp; done) | (simp [*]; done)), H', ⟨Nat.le_refl _⟩, ⟨by repeat (first | (with_reducible first | exact HB.out | apply below_alloc | apply pw_below_drewN | apply below_drew1) | exact HB.out)⟩⟩
  case round =>
    clear H'
    try clear c2
    try clear p2
    obtain ⟨x5_1, rfl, HA, HK1, HB⟩ := hrel
    cases gk with
    | zero => exact absurd HA.out (by simp [jobshellref46_snaps.l0])
    | succ k1 =>
      have H := HA.out
      clear HA
      simp only [jobshellref46_snaps.l0] at H
      by_cases c3 : x5_1 < (l0.length : Int)
      · rw [if_pos c3] at H
        have c3b0 : decide (x5_1 < (l0.length : Int)) = true := decide_eq_true c3
        clear c3
        by_cases c4 : 0 ≤ x5_1
        · rw [if_pos c4] at H
          have c4b0 : decide (0 ≤ x5_1) = true := decide_eq_true c4
          clear c4
          replace H := Option.bind_eq_some_iff.mp H
          obtain ⟨t339, A50, H⟩ := H
          replace H : (if t339 = true then (jobshellref46_snaps.l0 k1 l0 a1 (wrap64 (x5_1 + 1))) else (some false)) = some r := H
          have A5 := Aside0.mk A50
          clear A50
          by_cases c6 : t339 = true
          · subst c6
            have H1 : (jobshellref46_snaps.l0 k1 l0 a1 (wrap64 (x5_1 + 1))) = some r := by rw [if_pos rfl] at H; exact H
            clear H
            have H := H1
            clear H1
            have H' := Aside0.mk H
            clear H
            have p338 : 0 ≤ (x5_1 : Int) := of_decide_eq_true (by first | (with_reducible assumption) | assumption)
            have q338 : x5_1 < (l0.length : Int) := of_decide_eq_true (by first | (with_reducible assumption) | assumption)
            obtain ⟨ad338, e338, hx338_0, hx338_1⟩ := at_T23 HR0.out x5_1 p338 q338
            cases e338
            replace hx338_0 := (HB.out.cell (World.block_lt_of_cell? w _ hx338_0)).trans hx338_0
            replace hx338_1 := (HB.out.cell (World.block_lt_of_cell? w _ hx338_1)).trans hx338_1
            replace p338 := eq_true p338
            replace q338 := eq_true q338
            go_wp2_with (first | ((with_reducible refine gate_callee (f := 23) rfl ?_); refine goesL_ (some 17) rfl rfl Try.func23 (by kernel_rfl) rfl #[.agg #[.string ((rd_T23 l0 x5_1).f0), .int .i64 ((rd_T23 l0 x5_1).f1)], .int .i64 a1] rfl (by (try simp only [List.map_toArray, List.map_cons, List.map_nil]); first | done | rfl | (simp only [List.length_drop, List.length_take]; rfl)) ?_; (with_reducible refine (jobshellref46_snap.calls ((rd_T23 l0 x5_1).f0) ((rd_T23 l0 x5_1).f1) a1 true _ A5.out).mono ?_); rintro e w7 ⟨rfl, hb⟩; refine ⟨_, rfl, ?_⟩; have n0_ := Aside0.mk (below_step (by repeat (first | (with_reducible first | exact HB.out | apply below_alloc | apply pw_below_drewN | apply below_drew1) | exact HB.out)) hb); clear HB; have HB := n0_; clear n0_; (try clear hb); (try clear hb2); (try clear hk); (try clear hi)))
            go_roundg k1
            case measure => have := HK1.out; omega
            case rel => exact ⟨(wrap64 (x5_1 + 1)), (by first | rfl | (simp; done) | (simp [*]; done)), H', ⟨by have := HK1.out; omega⟩, ⟨by repeat (first | (with_reducible first | exact HB.out | apply below_alloc | apply pw_below_drewN | apply below_drew1) | exact HB.out)⟩⟩
          · replace c6 := Bool.eq_false_iff.mpr c6
            subst c6
            have H1 : (some false) = some r := by rw [if_neg (show ¬ (false = true) by decide)] at H; exact H
            clear H
            have H := H1
            clear H1
            obtain rfl := Option.some.inj H
            have p338 : 0 ≤ (x5_1 : Int) := of_decide_eq_true (by first | (with_reducible assumption) | assumption)
            have q338 : x5_1 < (l0.length : Int) := of_decide_eq_true (by first | (with_reducible assumption) | assumption)
            obtain ⟨ad338, e338, hx338_0, hx338_1⟩ := at_T23 HR0.out x5_1 p338 q338
            cases e338
            replace hx338_0 := (HB.out.cell (World.block_lt_of_cell? w _ hx338_0)).trans hx338_0
            replace hx338_1 := (HB.out.cell (World.block_lt_of_cell? w _ hx338_1)).trans hx338_1
            replace p338 := eq_true p338
            replace q338 := eq_true q338
            go_wp2_with (first | ((with_reducible refine gate_callee (f := 23) rfl ?_); refine goesL_ (some 17) rfl rfl Try.func23 (by kernel_rfl) rfl #[.agg #[.string ((rd_T23 l0 x5_1).f0), .int .i64 ((rd_T23 l0 x5_1).f1)], .int .i64 a1] rfl (by (try simp only [List.map_toArray, List.map_cons, List.map_nil]); first | done | rfl | (simp only [List.length_drop, List.length_take]; rfl)) ?_; (with_reducible refine (jobshellref46_snap.calls ((rd_T23 l0 x5_1).f0) ((rd_T23 l0 x5_1).f1) a1 false _ A5.out).mono ?_); rintro e w8 ⟨rfl, hb⟩; refine ⟨_, rfl, ?_⟩; have n0_ := Aside0.mk (below_step (by repeat (first | (with_reducible first | exact HB.out | apply below_alloc | apply pw_below_drewN | apply below_drew1) | exact HB.out)) hb); clear HB; have HB := n0_; clear n0_; (try clear hb); (try clear hb2); (try clear hk); (try clear hi)))
            go_ret
            exact ⟨by first | rfl | (simp [errW_none, errW_some] <;> rfl) | (simp [*, errW_none, errW_some] <;> rfl), by repeat (first | (with_reducible first | exact HB.out | apply below_alloc | apply pw_below_drewN | apply below_drew1) | exact HB.out)⟩
        · rw [if_neg c4] at H
          exact absurd H (by simp)
      · rw [if_neg c3] at H
        have c3b0 : decide (x5_1 < (l0.length : Int)) = false := decide_eq_false c3
        clear c3
        obtain rfl := Option.some.inj H
        go_wp2
        go_ret
        exact ⟨by first | rfl | (simp [errW_none, errW_some] <;> rfl) | (simp [*, errW_none, errW_some] <;> rfl), by repeat (first | (with_reducible first | exact HB.out | apply below_alloc | apply pw_below_drewN | apply below_drew1) | exact HB.out)⟩

end Go.Proofs.Ytlbbjdggebgabaa.P
end

section
/- The editor: Key. -/
namespace Go.Proofs.Ytlbbjdggebgabaa.P
open Go.RowKit Go.Proofs.YtlbbjdggebgabaaW.PrintWords Go.Proofs.YtlbbjdggebgabaaW.PrintLast Go.Proofs.YtlbbjdggebgabaaW.PrintMore
set_option linter.unusedVariables false
set_option linter.unusedSimpArgs false

def keysOf (s : St) (b : Int) : ByteArray := s.keys ++ strOfNums [b]
def leftB (a : Int) (t : ByteArray) : Bool := a == 2 || a == 24 || a == 22 || (a == 23 && t.toList == [])
theorem left_f (a : Int) (t : ByteArray) : editor_left.f 1 a t = some (leftB a t) := by
  unfold editor_left.f leftB
  by_cases h2 : a = 2
  · subst h2; rfl
  · rw [if_neg h2]
    by_cases h24 : a = 24
    · subst h24; rfl
    · rw [if_neg h24, editor_left.j0]
      by_cases h22 : a = 22
      · subst h22; rfl
      · have e2 : (a == 2) = false := beq_eq_false_iff_ne.mpr h2
        have e24 : (a == 24) = false := beq_eq_false_iff_ne.mpr h24
        have e22 : (a == 22) = false := beq_eq_false_iff_ne.mpr h22
        rw [e2, e24, e22]
        by_cases h23 : a = 23
        · subst h23; simp
        · have e23 : (a == 23) = false := beq_eq_false_iff_ne.mpr h23
          simp [e23, h23]
theorem blk_new2 (w : World) (a : Obj) (cs : Array Value) (t : TypeId) : ((w.alloc a).alloc (.cells cs t)).heap[w.heap.size + 1]? = some (.cells cs t (0, 0)) := by
  have h := blk_new (w.alloc a) (.cells cs t)
  simpa using h
theorem results_cell_row2 {P : Program} {fn : Func} {p u : Tmp} {ty : TypeId} (h : fn.results = #[.cell p ty, .tmp u]) (tmps : Array Value) (w : World) (g : Nat) (t : TypeId) (cs : Array Value) (fr : Nat × Nat) (d : TypeDesc)
    (hp : tmps.getD p undef = .pointer (some ⟨g, 0, none⟩)) (hg : w.heap[g]? = some (.cells cs t fr))
    (hu : P.underlying ty = some d) (hd : (match d with | .struct _ | .array _ _ => true | _ => false) = true) (hi : (P.info? ty).map (·.size) = some cs.size) :
    (results fn tmps).run P w = .ok (.tuple #[.agg cs, tmps.getD u undef]) w := by
  rw [results_cell_tmp h, hp]
  simp [asAddr, run_loadVar_row w g t ty cs fr d hg hu hd hi, Result.andThen]
section
variable {w W w3 : World} {rb be base : Nat} {s : St} {Ak Au Ar : Option Addr} {ck cu cr : Nat} {z0 z1 z2 z3 z4 z5 z6 z7 z8 z9 : Value}
theorem fillW_far {v0 v1 v2 v3 v4 v5 v6 v7 v8 v9 : Value} {j : Nat} {cs : Array Value} {t : TypeId} (h : W.heap[j]? = some (.cells cs t (0, 0))) (hne : j ≠ rb) : (fillW W rb v0 v1 v2 v3 v4 v5 v6 v7 v8 v9).heap[j]? = some (.cells cs t (0, 0)) := by
  unfold fillW
  exact blk_far (blk_far (blk_far (blk_far (blk_far (blk_far (blk_far (blk_far (blk_far (blk_far h hne _) hne _) hne _) hne _) hne _) hne _) hne _) hne _) hne _) hne _
/-- An editor's value laid into a box of ten cells. -/
theorem put_ed (H3 : Kd.R Kd.string 9 W base (fun _ => True) (.slice Ak s.kills.length ck) s.kills) (H4 : Kd.R k23 23 W base (fun _ => True) (.slice Au s.undo.length cu) s.undo) (H5 : Kd.R k23 23 W base (fun _ => True) (.slice Ar s.redo.length cr) s.redo)
    (hrb : W.heap[rb]? = some (.cells #[z0, z1, z2, z3, z4, z5, z6, z7, z8, z9] 27 (0, 0))) (hb : Below w.heap.size w W) (hr : w.heap.size ≤ rb) :
    (fillW W rb (.string s.text) (.int .i64 s.pos) (.int .i64 s.mark) (.slice Ak s.kills.length ck) (.slice Au s.undo.length cu) (.slice Ar s.redo.length cr) (.string s.keys) (.int .i64 s.last) (.int .i64 s.line) (.string s.saved)).heap[rb]? = some (.cells #[.string s.text, .int .i64 s.pos, .int .i64 s.mark, .slice Ak s.kills.length ck, .slice Au s.undo.length cu, .slice Ar s.redo.length cr, .string s.keys, .int .i64 s.last, .int .i64 s.line, .string s.saved] 27 (0, 0)) ∧
    EdR (fillW W rb (.string s.text) (.int .i64 s.pos) (.int .i64 s.mark) (.slice Ak s.kills.length ck) (.slice Au s.undo.length cu) (.slice Ar s.redo.length cr) (.string s.keys) (.int .i64 s.last) (.int .i64 s.line) (.string s.saved)) base s (.agg #[.string s.text, .int .i64 s.pos, .int .i64 s.mark, .slice Ak s.kills.length ck, .slice Au s.undo.length cu, .slice Ar s.redo.length cr, .string s.keys, .int .i64 s.last, .int .i64 s.line, .string s.saved]) ∧ Below w.heap.size w (fillW W rb (.string s.text) (.int .i64 s.pos) (.int .i64 s.mark) (.slice Ak s.kills.length ck) (.slice Au s.undo.length cu) (.slice Ar s.redo.length cr) (.string s.keys) (.int .i64 s.last) (.int .i64 s.line) (.string s.saved)) :=
  ⟨fillW_blk hrb, ⟨Ak, Au, Ar, ck, cu, cr, rfl, fillW_R E_string (by decide) H3 hrb, fillW_R E_k23 (by decide) H4 hrb, fillW_R E_k23 (by decide) H5 hrb⟩, fillW_below hb hr⟩
/-- A new list of keys in an editor's box. -/
theorem put_keys (kz : ByteArray) (H3 : Kd.R Kd.string 9 W base (fun _ => True) (.slice Ak s.kills.length ck) s.kills) (H4 : Kd.R k23 23 W base (fun _ => True) (.slice Au s.undo.length cu) s.undo) (H5 : Kd.R k23 23 W base (fun _ => True) (.slice Ar s.redo.length cr) s.redo)
    (hbe : W.heap[be]? = some (.cells #[.string s.text, .int .i64 s.pos, .int .i64 s.mark, .slice Ak s.kills.length ck, .slice Au s.undo.length cu, .slice Ar s.redo.length cr, .string s.keys, .int .i64 s.last, .int .i64 s.line, .string s.saved] 27 (0, 0))) :
    (W.setCell ⟨be, 6, none⟩ (.string kz)).heap[be]? = some (.cells #[.string s.text, .int .i64 s.pos, .int .i64 s.mark, .slice Ak s.kills.length ck, .slice Au s.undo.length cu, .slice Ar s.redo.length cr, .string kz, .int .i64 s.last, .int .i64 s.line, .string s.saved] 27 (0, 0)) ∧
    Kd.R Kd.string 9 (W.setCell ⟨be, 6, none⟩ (.string kz)) base (fun _ => True) (.slice Ak s.kills.length ck) s.kills ∧ Kd.R k23 23 (W.setCell ⟨be, 6, none⟩ (.string kz)) base (fun _ => True) (.slice Au s.undo.length cu) s.undo ∧ Kd.R k23 23 (W.setCell ⟨be, 6, none⟩ (.string kz)) base (fun _ => True) (.slice Ar s.redo.length cr) s.redo :=
  ⟨blk_put hbe 6 _ rfl, Kd.R_set H3 hbe (by rw [E_string]; decide) 6 _, Kd.R_set H4 hbe (by rw [E_k23]; decide) 6 _, Kd.R_set H5 hbe (by rw [E_k23]; decide) 6 _⟩
end

set_option maxHeartbeats 16000000 in
set_option maxRecDepth 100000 in
theorem key_act (w : World) (s : St) (b ac more : Int) (k : Nat) (l : List S46) (v h : Value) (A0 : Option Addr) (c0 : Nat) (ok : OkS s) (hks : s.keys.size ≤ 100000) (hb0 : 0 ≤ b) (hb1 : b < 256) (hv : EdC w s v) (hh : HiC w s.off s.lines h) (hl : Kd.C k46 w A0 l.length l) (hlc : l.length ≤ c0) (hf : keymap_Find.f k l (keysOf s b) = some (ac, more)) (hm : more ≠ 1) (ha : ac ≠ 0) (hleft : leftB ac s.text = false) :
    Calls Try.prog 18 #[v, .slice A0 l.length c0, .int .u8 b, h] w fun e w' => ∃ v', e = .returned (.tuple #[v', .int .i64 0]) ∧ EdR w' w.heap.size (doS { s with keys := ⟨#[]⟩ } ac (keysOf s b)) v' ∧ Below w.heap.size w w' := by
  obtain ⟨Ak, Au, Ar, ck, cu, cr, rfl, h1, h2, h3⟩ := hv
  obtain ⟨Al, cl, rfl, h4, h5⟩ := hh
  unfold edV
  have hu27 := Try.underlying27
  have hu38 := Try.underlying38
  have hu23 := Try.underlying23
  have hu66 := Try.underlying66
  obtain ⟨w1, hw1⟩ : ∃ z, z = ((((w.alloc (.cells #[.string s.text, .int .i64 s.pos, .int .i64 s.mark, .slice Ak s.kills.length ck, .slice Au s.undo.length cu, .slice Ar s.redo.length cr, .string s.keys, .int .i64 s.last, .int .i64 s.line, .string s.saved] 27)).alloc (.cells #[.int .i64 s.off, .slice Al s.lines.length cl] 38)).alloc (.cells #[.string ⟨#[]⟩, .int .i64 0, .int .i64 0, .slice none 0 0, .slice none 0 0, .slice none 0 0, .string ⟨#[]⟩, .int .i64 0, .int .i64 0, .string ⟨#[]⟩] 27)).alloc (.cells #[.int .u8 b] 5)) := ⟨_, rfl⟩
  obtain ⟨bs, hbs⟩ : ∃ z, z = strOfNums [b] := ⟨_, rfl⟩
  obtain ⟨ks, hks2⟩ : ∃ z, z = s.keys ++ bs := ⟨_, rfl⟩
  have hko : keysOf s b = ks := by rw [hks2, hbs]; rfl
  have hconv : (convert 66 9 (.slice (some ⟨w.heap.size + 1 + 1 + 1, 0, none⟩) 1 1)).run Try.prog ((((w.alloc (.cells #[.string s.text, .int .i64 s.pos, .int .i64 s.mark, .slice Ak s.kills.length ck, .slice Au s.undo.length cu, .slice Ar s.redo.length cr, .string s.keys, .int .i64 s.last, .int .i64 s.line, .string s.saved] 27)).alloc (.cells #[.int .i64 s.off, .slice Al s.lines.length cl] 38)).alloc (.cells #[.string ⟨#[]⟩, .int .i64 0, .int .i64 0, .slice none 0 0, .slice none 0 0, .slice none 0 0, .string ⟨#[]⟩, .int .i64 0, .int .i64 0, .string ⟨#[]⟩] 27)).alloc (.cells #[.int .u8 b] 5)) = .ok (.string bs) ((((w.alloc (.cells #[.string s.text, .int .i64 s.pos, .int .i64 s.mark, .slice Ak s.kills.length ck, .slice Au s.undo.length cu, .slice Ar s.redo.length cr, .string s.keys, .int .i64 s.last, .int .i64 s.line, .string s.saved] 27)).alloc (.cells #[.int .i64 s.off, .slice Al s.lines.length cl] 38)).alloc (.cells #[.string ⟨#[]⟩, .int .i64 0, .int .i64 0, .slice none 0 0, .slice none 0 0, .slice none 0 0, .string ⟨#[]⟩, .int .i64 0, .int .i64 0, .string ⟨#[]⟩] 27)).alloc (.cells #[.int .u8 b] 5)) := by
    rw [hbs]
    refine run_convert_bytes_arg _ 66 5 Try.underlying66 Try.underlying5 (w.heap.size + 1 + 1 + 1) 0 1 1 [b] rfl (fun i hi => ?_) 9 Try.underlying9
    have hi0 : i = 0 := by omega
    subst hi0
    have hq := blk_cell (blk_new (((w.alloc (.cells #[.string s.text, .int .i64 s.pos, .int .i64 s.mark, .slice Ak s.kills.length ck, .slice Au s.undo.length cu, .slice Ar s.redo.length cr, .string s.keys, .int .i64 s.last, .int .i64 s.line, .string s.saved] 27)).alloc (.cells #[.int .i64 s.off, .slice Al s.lines.length cl] 38)).alloc (.cells #[.string ⟨#[]⟩, .int .i64 0, .int .i64 0, .slice none 0 0, .slice none 0 0, .slice none 0 0, .string ⟨#[]⟩, .int .i64 0, .int .i64 0, .string ⟨#[]⟩] 27)) (.cells #[.int .u8 b] 5)) 0
    simpa using hq
  have hbz : bs.size = 1 := by rw [hbs, strOfNums_size]; rfl
  have hkz : s.keys.size + bs.size ≤ 9223372036854775807 := by omega
  have hksz : ks.size ≤ 1000000 := by rw [hks2, ByteArray.size_append]; omega
  have hb1 : Below w.heap.size w w1 := by rw [hw1]; exact below_alloc (below_alloc (below_alloc (below_alloc (Below.refl _ _) _) _) _) _
  have HBE := Aside0.mk (show w1.heap[w.heap.size]? = some (.cells #[.string s.text, .int .i64 s.pos, .int .i64 s.mark, .slice Ak s.kills.length ck, .slice Au s.undo.length cu, .slice Ar s.redo.length cr, .string s.keys, .int .i64 s.last, .int .i64 s.line, .string s.saved] 27 (0, 0)) from by rw [hw1]; exact blk_alloc (blk_alloc (blk_alloc (blk_new w _) _) _) _)
  have HBH := Aside0.mk (show w1.heap[w.heap.size + 1]? = some (.cells #[.int .i64 s.off, .slice Al s.lines.length cl] 38 (0, 0)) from by rw [hw1]; exact blk_alloc (blk_alloc (blk_new2 w _ _ _) _) _)
  have HBR := Aside0.mk (show w1.heap[w.heap.size + 1 + 1]? = some (.cells #[.string ⟨#[]⟩, .int .i64 0, .int .i64 0, .slice none 0 0, .slice none 0 0, .slice none 0 0, .string ⟨#[]⟩, .int .i64 0, .int .i64 0, .string ⟨#[]⟩] 27 (0, 0)) from by rw [hw1]; exact blk_alloc (blk_new3 w _ _ _ _) _)
  have HSZ := Aside0.mk (show w1.heap.size = w.heap.size + 1 + 1 + 1 + 1 from by rw [hw1]; simp)
  have HB1 := Aside0.mk hb1
  have K0L := Aside0.mk h5
  have K1 := Aside0.mk (Kd.C_below h1 hb1)
  have K2 := Aside0.mk (Kd.C_below h2 hb1)
  have K3 := Aside0.mk (Kd.C_below h3 hb1)
  have K4 := Aside0.mk (Kd.C_below h5 hb1)
  have K5 := Aside0.mk (Kd.C_below hl hb1)
  have HW1 := Aside0.mk hw1
  have HK := Aside0.mk ok
  have HKS := Aside0.mk hks2
  have HKO := Aside0.mk hko
  have HKZ := Aside0.mk hksz
  have HF := Aside0.mk (show keymap_Find.f k l ks = some (ac, more) from by rw [← hko]; exact hf)
  try rw [HKO.out]
  have hmb : (more == 1) = false := beq_eq_false_iff_ne.mpr hm
  clear hm
  have hab : (ac != 0) = true := bne_iff_ne.mpr ha
  have HLF := Aside0.mk hleft
  clear ha hleft
  clear hw1 hb1 h1 h2 h3 h5 hl ok hbs hks2 hf hbz hko hksz
  go_enter Try.func18, Try.ntmps18
  go_wp2_with (fail)
  rw [← HW1.out, ← HKS.out]
  refine (keymap_Find.calls k A0 c0 l ks ac more w1 K5.out hlc HF.out).mono ?_
  rintro e w2 ⟨rfl, hb2⟩
  have HB2 := Aside0.mk hb2
  have K1b := Aside0.mk (Kd.C_below K1.out hb2)
  have K2b := Aside0.mk (Kd.C_below K2.out hb2)
  have K3b := Aside0.mk (Kd.C_below K3.out hb2)
  have K4b := Aside0.mk (Kd.C_below K4.out hb2)
  have hbe := blk_below HBE.out hb2
  have hbh := blk_below HBH.out hb2
  have hbr := blk_below HBR.out hb2
  obtain ⟨d0, d1, d2, d3, d4, d5, d6, d7, d8, d9⟩ := Box.cells (s := s) hbe
  have e0 : w2.cell? ⟨w.heap.size + 1, 0, none⟩ = some (.int .i64 s.off) := (blk_cell hbh 0).trans rfl
  have e1 : w2.cell? ⟨w.heap.size + 1, 1, none⟩ = some (.slice Al s.lines.length cl) := (blk_cell hbh 1).trans rfl
  have HBE2 := Aside0.mk hbe
  have HBH2 := Aside0.mk hbh
  have HBR2 := Aside0.mk hbr
  have hsz2 : w.heap.size + 1 + 1 + 1 + 1 ≤ w2.heap.size := by have h1 := HSZ.out; have h2 := hb2.size; omega
  have HSZ2 := Aside0.mk hsz2
  clear hb2 hbe hbh hbr hconv hsz2
  go_wp2_with (fail)
  refine (begin_calls w2 s Ak Au Ar Al ck cu cr cl K1b.out K2b.out K3b.out K4b.out h4 HK.out.kills HK.out.undo HK.out.redo).mono ?_
  rintro e w3 ⟨g, rfl, hI, hB⟩
  obtain ⟨Ak2, Au2, Ar2, ck2, cu2, cr2, vl, H1, H2, H3, H4, H5⟩ := hI.R
  clear d0 d1 d2 d3 d4 d5 d6 d7 d8 d9 e0 e1
  have hbe := blk_below HBE2.out hB
  have hbh := blk_below HBH2.out hB
  have hbr := blk_below HBR2.out hB
  have hq := blk_frozen hbe
  have hqr := blk_frozen hbr
  obtain ⟨b0, b1', b2, b3, b4, b5, b6, b7, b8, b9⟩ := Box.cells (s := s) hbe
  obtain ⟨d0, d1, d2, d3, d4, d5, d6, d7, d8, d9, d10, d11⟩ := H1.cells
  have r0 := (blk_cell hbr 0).trans rfl
  have r1 := (blk_cell hbr 1).trans rfl
  have r2 := (blk_cell hbr 2).trans rfl
  have r3 := (blk_cell hbr 3).trans rfl
  have r4 := (blk_cell hbr 4).trans rfl
  have r5 := (blk_cell hbr 5).trans rfl
  have r6 := (blk_cell hbr 6).trans rfl
  have r7 := (blk_cell hbr 7).trans rfl
  have r8 := (blk_cell hbr 8).trans rfl
  have r9 := (blk_cell hbr 9).trans rfl
  have e0 : w3.cell? ⟨w.heap.size + 1, 0, none⟩ = some (.int .i64 s.off) := (blk_cell hbh 0).trans rfl
  have e1 : w3.cell? ⟨w.heap.size + 1, 1, none⟩ = some (.slice Al s.lines.length cl) := (blk_cell hbh 1).trans rfl
  have hne1 : ¬ w.heap.size = g := by have h1 := HSZ2.out; omega
  have hne2 : ¬ g = w.heap.size := fun h => hne1 h.symm
  obtain ⟨wB, hwB⟩ : ∃ z, z = ((((((((((w3.setCell ⟨w.heap.size, 0, none⟩ (.string s.text)).setCell ⟨w.heap.size, 1, none⟩ (.int .i64 s.pos)).setCell ⟨w.heap.size, 2, none⟩ (.int .i64 s.mark)).setCell ⟨w.heap.size, 3, none⟩ (.slice Ak2 s.kills.length ck2)).setCell ⟨w.heap.size, 4, none⟩ (.slice Au2 s.undo.length cu2)).setCell ⟨w.heap.size, 5, none⟩ (.slice Ar2 s.redo.length cr2)).setCell ⟨w.heap.size, 6, none⟩ (.string s.keys)).setCell ⟨w.heap.size, 7, none⟩ (.int .i64 s.last)).setCell ⟨w.heap.size, 8, none⟩ (.int .i64 s.line)).setCell ⟨w.heap.size, 9, none⟩ (.string s.saved)) := ⟨_, rfl⟩
  have HWB := Aside0.mk hwB
  obtain ⟨wC, hwC⟩ : ∃ z, z = wB.setCell ⟨w.heap.size, 6, none⟩ (.string (⟨#[]⟩ : ByteArray)) := ⟨_, rfl⟩
  have hbel3 : Below w.heap.size w w3 := below_step (below_step HB1.out HB2.out) hB
  have hfe := fillW_blk (v0 := (.string s.text)) (v1 := (.int .i64 s.pos)) (v2 := (.int .i64 s.mark)) (v3 := (.slice Ak2 s.kills.length ck2)) (v4 := (.slice Au2 s.undo.length cu2)) (v5 := (.slice Ar2 s.redo.length cr2)) (v6 := (.string s.keys)) (v7 := (.int .i64 s.last)) (v8 := (.int .i64 s.line)) (v9 := (.string s.saved)) hbe
  have hfh : (fillW w3 w.heap.size (.string s.text) (.int .i64 s.pos) (.int .i64 s.mark) (.slice Ak2 s.kills.length ck2) (.slice Au2 s.undo.length cu2) (.slice Ar2 s.redo.length cr2) (.string s.keys) (.int .i64 s.last) (.int .i64 s.line) (.string s.saved)).heap[w.heap.size + 1]? = some (.cells #[.int .i64 s.off, .slice Al s.lines.length cl] 38 (0, 0)) := fillW_far hbh (by omega)
  have hfr : (fillW w3 w.heap.size (.string s.text) (.int .i64 s.pos) (.int .i64 s.mark) (.slice Ak2 s.kills.length ck2) (.slice Au2 s.undo.length cu2) (.slice Ar2 s.redo.length cr2) (.string s.keys) (.int .i64 s.last) (.int .i64 s.line) (.string s.saved)).heap[w.heap.size + 1 + 1]? = some (.cells #[.string ⟨#[]⟩, .int .i64 0, .int .i64 0, .slice none 0 0, .slice none 0 0, .slice none 0 0, .string ⟨#[]⟩, .int .i64 0, .int .i64 0, .string ⟨#[]⟩] 27 (0, 0)) := fillW_far hbr (by omega)
  have hfb : Below w.heap.size w (fillW w3 w.heap.size (.string s.text) (.int .i64 s.pos) (.int .i64 s.mark) (.slice Ak2 s.kills.length ck2) (.slice Au2 s.undo.length cu2) (.slice Ar2 s.redo.length cr2) (.string s.keys) (.int .i64 s.last) (.int .i64 s.line) (.string s.saved)) := fillW_below hbel3 (Nat.le_refl _)
  have hfR3 := fillW_R (v0 := (.string s.text)) (v1 := (.int .i64 s.pos)) (v2 := (.int .i64 s.mark)) (v3 := (.slice Ak2 s.kills.length ck2)) (v4 := (.slice Au2 s.undo.length cu2)) (v5 := (.slice Ar2 s.redo.length cr2)) (v6 := (.string s.keys)) (v7 := (.int .i64 s.last)) (v8 := (.int .i64 s.line)) (v9 := (.string s.saved)) E_string (by decide) H3 hbe
  have hfR4 := fillW_R (v0 := (.string s.text)) (v1 := (.int .i64 s.pos)) (v2 := (.int .i64 s.mark)) (v3 := (.slice Ak2 s.kills.length ck2)) (v4 := (.slice Au2 s.undo.length cu2)) (v5 := (.slice Ar2 s.redo.length cr2)) (v6 := (.string s.keys)) (v7 := (.int .i64 s.last)) (v8 := (.int .i64 s.line)) (v9 := (.string s.saved)) E_k23 (by decide) H4 hbe
  have hfR5 := fillW_R (v0 := (.string s.text)) (v1 := (.int .i64 s.pos)) (v2 := (.int .i64 s.mark)) (v3 := (.slice Ak2 s.kills.length ck2)) (v4 := (.slice Au2 s.undo.length cu2)) (v5 := (.slice Ar2 s.redo.length cr2)) (v6 := (.string s.keys)) (v7 := (.int .i64 s.last)) (v8 := (.int .i64 s.line)) (v9 := (.string s.saved)) E_k23 (by decide) H5 hbe
  rw [show fillW w3 w.heap.size (.string s.text) (.int .i64 s.pos) (.int .i64 s.mark) (.slice Ak2 s.kills.length ck2) (.slice Au2 s.undo.length cu2) (.slice Ar2 s.redo.length cr2) (.string s.keys) (.int .i64 s.last) (.int .i64 s.line) (.string s.saved) = wB from hwB.symm] at hfe hfh hfr hfb hfR3 hfR4 hfR5
  have hszB : w3.heap.size = wB.heap.size := by rw [hwB]; simp [World.setCell]
  clear hwB
  have hbelC : Below w.heap.size w wC := by rw [hwC]; exact below_set hfb (Nat.le_refl _)
  obtain ⟨x1, x2, x3, x4⟩ := put_keys (s := s) (be := w.heap.size) (⟨#[]⟩ : ByteArray) hfR3 hfR4 hfR5 hfe
  rw [← hwC] at x1 x2 x3 x4
  have x5 : wC.heap[w.heap.size + 1]? = some (.cells #[.int .i64 s.off, .slice Al s.lines.length cl] 38 (0, 0)) := by rw [hwC]; exact blk_far hfh (by simp) _
  have x6 : wC.heap[w.heap.size + 1 + 1]? = some (.cells #[.string ⟨#[]⟩, .int .i64 0, .int .i64 0, .slice none 0 0, .slice none 0 0, .slice none 0 0, .string ⟨#[]⟩, .int .i64 0, .int .i64 0, .string ⟨#[]⟩] 27 (0, 0)) := by rw [hwC]; exact blk_far hfr (by simp; omega) _
  have hszC : w.heap.size + 1 + 1 + 1 + 1 ≤ wC.heap.size := by
    have h1 : wC.heap.size = wB.heap.size := by rw [hwC]; simp [World.setCell]
    rw [← hszB] at h1
    have h2 := hB.size
    have h3 := HSZ2.out
    omega
  have HWC := Aside0.mk hwC
  have X1 := Aside0.mk x1
  have X2 := Aside0.mk (Kd.R_lower x2 (show w.heap.size ≤ w2.heap.size from by have := HSZ2.out; omega))
  have X3 := Aside0.mk (Kd.R_lower x3 (show w.heap.size ≤ w2.heap.size from by have := HSZ2.out; omega))
  have X4 := Aside0.mk (Kd.R_lower x4 (show w.heap.size ≤ w2.heap.size from by have := HSZ2.out; omega))
  have X5 := Aside0.mk x5
  have X6 := Aside0.mk x6
  have XB := Aside0.mk hbelC
  have XS := Aside0.mk hszC
  have XL := Aside0.mk (Kd.C_below K0L.out hbelC)
  have FE := Aside0.mk hfe
  have FH := Aside0.mk hfh
  have FR := Aside0.mk hfr
  clear H1 H3 H4 H5 hbe hbh hbr hB hI hfe hfh hfr hfb hfR3 hfR4 hfR5 hszB x1 x2 x3 x4 x5 x6 hwC hbel3 hbelC hszC
  go_upto_if 32 with (fail)
  rw [← HWB.out]
  clear hq hqr b0 b1' b2 b3 b4 b5 b6 b7 b8 b9 d0 d1 d2 d3 d4 d5 d6 d7 d8 d9 d10 d11 r0 r1 r2 r3 r4 r5 r6 r7 r8 r9 e0 e1 hne1 hne2
  have hq := blk_frozen FE.out
  have hqr := blk_frozen FR.out
  obtain ⟨d0, d1, d2, d3, d4, d5, d6, d7, d8, d9⟩ := Box.cells (s := s) FE.out
  have r0 := (blk_cell FR.out 0).trans rfl
  have r1 := (blk_cell FR.out 1).trans rfl
  have r2 := (blk_cell FR.out 2).trans rfl
  have r3 := (blk_cell FR.out 3).trans rfl
  have r4 := (blk_cell FR.out 4).trans rfl
  have r5 := (blk_cell FR.out 5).trans rfl
  have r6 := (blk_cell FR.out 6).trans rfl
  have r7 := (blk_cell FR.out 7).trans rfl
  have r8 := (blk_cell FR.out 8).trans rfl
  have r9 := (blk_cell FR.out 9).trans rfl
  have e0 : wB.cell? ⟨w.heap.size + 1, 0, none⟩ = some (.int .i64 s.off) := (blk_cell FH.out 0).trans rfl
  have e1 : wB.cell? ⟨w.heap.size + 1, 1, none⟩ = some (.slice Al s.lines.length cl) := (blk_cell FH.out 1).trans rfl
  go_wp2_with (fail)
  rw [← HWC.out]
  first | go_at_call 33 | skip
  refine (editor_left.calls 1 ac s.text false wC (by rw [left_f, HLF.out])).mono ?_
  rintro e w5 ⟨rfl, ⟨m, rfl⟩⟩
  clear d0 d1 d2 d3 d4 d5 d6 d7 d8 d9 r0 r1 r2 r3 r4 r5 r6 r7 r8 r9 e0 e1 hq hqr
  have hbd := pw_below_drewN (Below.refl wC.heap.size wC) m
  have x1 := blk_below X1.out hbd
  have x5 := blk_below X5.out hbd
  have x6 := blk_below X6.out hbd
  have x2 := Kd.R_below X2.out hbd
  have x3 := Kd.R_below X3.out hbd
  have x4 := Kd.R_below X4.out hbd
  have xb := pw_below_drewN XB.out m
  obtain ⟨d0, d1, d2, d3, d4, d5, d6, d7, d8, d9⟩ := Box.cells (s := { s with keys := ⟨#[]⟩ }) x1
  have e0 : (wC.drewN m).cell? ⟨w.heap.size + 1, 0, none⟩ = some (.int .i64 s.off) := (blk_cell x5 0).trans rfl
  have e1 : (wC.drewN m).cell? ⟨w.heap.size + 1, 1, none⟩ = some (.slice Al s.lines.length cl) := (blk_cell x5 1).trans rfl
  have v1 := Aside0.mk (show EdR (wC.drewN m) w.heap.size { s with keys := ⟨#[]⟩ } (edV { s with keys := ⟨#[]⟩ } (.slice Ak2 s.kills.length ck2) (.slice Au2 s.undo.length cu2) (.slice Ar2 s.redo.length cr2)) from ⟨Ak2, Au2, Ar2, ck2, cu2, cr2, rfl, x2, x3, x4⟩)
  have v2 := Aside0.mk (show HiC (wC.drewN m) s.off s.lines (.agg #[.int .i64 s.off, .slice Al s.lines.length cl]) from ⟨Al, cl, rfl, h4, Kd.C_below XL.out hbd⟩)
  have v3 := Aside0.mk xb
  have v4 := Aside0.mk x6
  have v5 : w.heap.size + 1 + 1 + 1 + 1 ≤ (wC.drewN m).heap.size := by have h1 := XS.out; have h2 := hbd.size; omega
  have v6 : OkS { s with keys := ⟨#[]⟩ } := ⟨HK.out.undo, HK.out.redo, HK.out.kills, HK.out.each, HK.out.low, HK.out.high, HK.out.text, HK.out.lines, HK.out.line0, HK.out.line1⟩
  have V6 := Aside0.mk v6
  clear x1 x2 x3 x4 x5 x6 xb hbd v6
  go_wp2_with (fail)
  refine (do_callsR (wC.drewN m) w.heap.size { s with keys := ⟨#[]⟩ } ac ks _ _ V6.out HKZ.out v1.out (by omega) v2.out).mono ?_
  rintro e w6 ⟨v', rfl, hv6, hb6⟩
  have hbr6 := blk_below v4.out hb6
  have hbel6 := below_step v3.out hb6
  obtain ⟨T, hT⟩ : ∃ z, z = doS { s with keys := ⟨#[]⟩ } ac ks := ⟨_, rfl⟩
  rw [← hT] at hv6
  obtain ⟨Ak6, Au6, Ar6, ck6, cu6, cr6, rfl, g2, g3, g4⟩ := hv6
  have HT := Aside0.mk hT
  have hqr6 := blk_frozen hbr6
  have r0 := (blk_cell hbr6 0).trans rfl
  have r1 := (blk_cell hbr6 1).trans rfl
  have r2 := (blk_cell hbr6 2).trans rfl
  have r3 := (blk_cell hbr6 3).trans rfl
  have r4 := (blk_cell hbr6 4).trans rfl
  have r5 := (blk_cell hbr6 5).trans rfl
  have r6 := (blk_cell hbr6 6).trans rfl
  have r7 := (blk_cell hbr6 7).trans rfl
  have r8 := (blk_cell hbr6 8).trans rfl
  have r9 := (blk_cell hbr6 9).trans rfl
  have G2 := Aside0.mk g2
  have G3 := Aside0.mk g3
  have G4 := Aside0.mk g4
  have G6 := Aside0.mk hbr6
  have GB := Aside0.mk hbel6
  clear d0 d1 d2 d3 d4 d5 d6 d7 d8 d9 e0 e1
  clear hT g2 g3 g4 hbr6 hbel6 hb6
  unfold edV
  go_wp2_with (fail)
  obtain ⟨u1, u2, u3⟩ := put_ed (w := w) (s := T) (rb := w.heap.size + 1 + 1) G2.out G3.out G4.out G6.out GB.out (by omega)
  refine bodyPost_ret (results_cell_row2 rfl _ _ (w.heap.size + 1 + 1) 27 _ (0, 0) _ rfl u1 hu27 rfl (by first | rfl | decide)) rfl ?_
  rw [← HT.out]
  exact ⟨_, rfl, u2, u3⟩

end Go.Proofs.Ytlbbjdggebgabaa.P
end

section
namespace Go.Proofs.Ytlbbjdggebgabaa.P
open Go.RowKit Go.Proofs.YtlbbjdggebgabaaW.PrintWords Go.Proofs.YtlbbjdggebgabaaW.PrintLast Go.Proofs.YtlbbjdggebgabaaW.PrintMore
attribute [local go_sem] max2_int min2_int max_two min_two max_three min_three max_four min_four   -- for this text's walks alone
set_option linter.unusedVariables false
set_option linter.unusedSimpArgs false

def editor_long.l0 : Nat → List (S23) → Int → Int → Option (Bool)
  | 0, _, _, _ => none
  | k + 1, x5, x6, x7 => if x7 < x6 then (if 0 ≤ x7 then (if x7 < (x5.length : Int) then (if (((rd_T23 x5 x7).f0).size : Int) > 4096 then (some true) else (editor_long.l0 k x5 x6 (wrap64 (x7 + 1)))) else (none)) else (none)) else (some false)
def editor_long.f (k : Nat) (l0 : List (S23)) : Option (Bool) := editor_long.l0 k l0 (l0.length : Int) 0
set_option maxHeartbeats 8000000 in
set_option maxRecDepth 100000 in
theorem editor_long.calls (k : Nat) (A0 : Option Addr) (c0 : Nat) (l0 : List (S23)) (r : Bool) (w : World) (hr0 : Kd.C k23 w A0 l0.length l0) (hc0 : l0.length ≤ c0) (h : editor_long.f k l0 = some r) :
    Calls Try.prog 21 #[.slice A0 l0.length c0] w fun e w' => e = .returned (.bool r) ∧ Below w.heap.size w w' := by
  have hu23 := Try.underlying23
  have HR0 := Aside0.mk hr0
  have HC0 := Aside0.mk hc0
  clear hr0 hc0
  have HB := Aside0.mk (Below.refl w.heap.size w)
  have H : (editor_long.l0 k l0 (l0.length : Int) 0) = some r := h
  clear h
  have H' := Aside0.mk H
  clear H
  go_enter Try.func21, Try.ntmps21
  go_wp2
  go_loopg [7] k (fun kq v7 w' => ∃ (x7_1 : Int), v7 = .int .i64 x7_1 ∧ Aside0 (editor_long.l0 kq l0 (l0.length : Int) x7_1 = some r) ∧ Aside0 (kq ≤ k) ∧ Aside0 (Below w.heap.size w w'))
  case atStart => exact ⟨(0), (by first | rfl | (simp; done) | (simp [*]; done)), H', ⟨Nat.le_refl _⟩, ⟨by repeat (first | (with_reducible first | exact HB.out | apply below_alloc | apply pw_below_drewN | apply below_drew1) | exact HB.out)⟩⟩
  case round =>
    clear H'
    obtain ⟨x7_1, rfl, HA, HK1, HB⟩ := hrel
    cases gk with
    | zero => exact absurd HA.out (by simp [editor_long.l0])
    | succ k1 =>
      have H := HA.out
      clear HA
      simp only [editor_long.l0] at H
      by_cases c2 : x7_1 < (l0.length : Int)
      · rw [if_pos c2] at H
        have c2b0 : decide (x7_1 < (l0.length : Int)) = true := decide_eq_true c2
        clear c2
        by_cases c3 : 0 ≤ x7_1
        · rw [if_pos c3] at H
          have c3b0 : decide (0 ≤ x7_1) = true := decide_eq_true c3
          clear c3
          by_cases c4 : x7_1 < (l0.length : Int)
          · rw [if_pos c4] at H
            have c4b0 : decide (x7_1 < (l0.length : Int)) = true := decide_eq_true c4
            clear c4
            by_cases c5 : (((rd_T23 l0 x7_1).f0).size : Int) > 4096
            · rw [if_pos c5] at H
              have c5b0 : decide (4096 < (((rd_T23 l0 x7_1).f0).size : Int)) = true := decide_eq_true c5
              have c5b1 : decide (4096 < ((rd_T23 l0 x7_1).f0).size) = true := decide_eq_true (by omega)
              clear c5
              obtain rfl := Option.some.inj H
              have p105 : 0 ≤ (x7_1 : Int) := of_decide_eq_true (by first | (with_reducible assumption) | assumption)
              have q105 : x7_1 < (l0.length : Int) := of_decide_eq_true (by first | (with_reducible assumption) | assumption)
              obtain ⟨ad105, e105, hx105_0, hx105_1⟩ := at_T23 HR0.out x7_1 p105 q105
              cases e105
              replace hx105_0 := (HB.out.cell (World.block_lt_of_cell? w _ hx105_0)).trans hx105_0
              replace hx105_1 := (HB.out.cell (World.block_lt_of_cell? w _ hx105_1)).trans hx105_1
              replace p105 := eq_true p105
              replace q105 := eq_true q105
              go_wp2_with (first | ((with_reducible refine gate_dst (N := 4) rfl ?_); refine box_event ?hg (N := 4) ?hd (cs := #[.string (⟨#[]⟩ : ByteArray), .int .i64 0]) (t := 23) ?hr ?_; (case hd => rfl); (case hg => rfl); (case hr => first | (go_simp; done) | (go_simp; rfl)); intro gb106 hg w6 hbox hb; have n0_ := Aside0.mk (below_step (by repeat (first | (with_reducible first | exact HB.out | apply below_alloc | apply pw_below_drewN | apply below_drew1) | exact HB.out)) hb); have n1_ := Aside0.mk (hbox); have n2_ := Aside0.mk ((by rw [hg]; exact (below_size (by repeat (first | (with_reducible first | exact HB.out | apply below_alloc | apply pw_below_drewN | apply below_drew1) | exact HB.out))) : w.heap.size ≤ gb106)); have n3_ := Aside0.mk ((by rw [hg]; exact (below_size (by repeat (first | (with_reducible first | exact HB.out | apply below_alloc | apply pw_below_drewN | apply below_drew1) | exact HB.out))) : w.heap.size ≤ gb106)); clear HB; have HB := n0_; have BK106 := n1_; have GW106 := n2_; have GE106 := n3_; clear n0_ n1_ n2_ n3_; clear hb hbox hg; have hcz7_0 : w6.cell? ⟨gb106, 0, none⟩ = some (.string (⟨#[]⟩ : ByteArray)) := (blk_cell BK106.out 0).trans rfl; have hcz7_1 : w6.cell? ⟨gb106, 1, none⟩ = some (.int .i64 0) := (blk_cell BK106.out 1).trans rfl; have hfz7_0 := blk_frozen BK106.out 0; have hfz7_1 := blk_frozen BK106.out 1))
              go_ret
              exact ⟨by first | rfl | (simp [errW_none, errW_some] <;> rfl) | (simp [*, errW_none, errW_some] <;> rfl), by repeat (first | (with_reducible first | exact HB.out | apply below_alloc | apply pw_below_drewN | apply below_drew1 | refine below_set ?_ GE106.out) | exact HB.out)⟩
            · rw [if_neg c5] at H
              have c5b0 : decide (4096 < (((rd_T23 l0 x7_1).f0).size : Int)) = false := decide_eq_false c5
              have c5b1 : decide (4096 < ((rd_T23 l0 x7_1).f0).size) = false := decide_eq_false (by omega)
              clear c5
              have H' := Aside0.mk H
              clear H
              have p105 : 0 ≤ (x7_1 : Int) := of_decide_eq_true (by first | (with_reducible assumption) | assumption)
              have q105 : x7_1 < (l0.length : Int) := of_decide_eq_true (by first | (with_reducible assumption) | assumption)
              obtain ⟨ad105, e105, hx105_0, hx105_1⟩ := at_T23 HR0.out x7_1 p105 q105
              cases e105
              replace hx105_0 := (HB.out.cell (World.block_lt_of_cell? w _ hx105_0)).trans hx105_0
              replace hx105_1 := (HB.out.cell (World.block_lt_of_cell? w _ hx105_1)).trans hx105_1
              replace p105 := eq_true p105
              replace q105 := eq_true q105
              go_wp2_with (first | ((with_reducible refine gate_dst (N := 4) rfl ?_); refine box_event ?hg (N := 4) ?hd (cs := #[.string (⟨#[]⟩ : ByteArray), .int .i64 0]) (t := 23) ?hr ?_; (case hd => rfl); (case hg => rfl); (case hr => first | (go_simp; done) | (go_simp; rfl)); intro gb106 hg w8 hbox hb; have n0_ := Aside0.mk (below_step (by repeat (first | (with_reducible first | exact HB.out | apply below_alloc | apply pw_below_drewN | apply below_drew1) | exact HB.out)) hb); have n1_ := Aside0.mk (hbox); have n2_ := Aside0.mk ((by rw [hg]; exact (below_size (by repeat (first | (with_reducible first | exact HB.out | apply below_alloc | apply pw_below_drewN | apply below_drew1) | exact HB.out))) : w.heap.size ≤ gb106)); have n3_ := Aside0.mk ((by rw [hg]; exact (below_size (by repeat (first | (with_reducible first | exact HB.out | apply below_alloc | apply pw_below_drewN | apply below_drew1) | exact HB.out))) : w.heap.size ≤ gb106)); clear HB; have HB := n0_; have BK106 := n1_; have GW106 := n2_; have GE106 := n3_; clear n0_ n1_ n2_ n3_; clear hb hbox hg; have hcz9_0 : w8.cell? ⟨gb106, 0, none⟩ = some (.string (⟨#[]⟩ : ByteArray)) := (blk_cell BK106.out 0).trans rfl; have hcz9_1 : w8.cell? ⟨gb106, 1, none⟩ = some (.int .i64 0) := (blk_cell BK106.out 1).trans rfl; have hfz9_0 := blk_frozen BK106.out 0; have hfz9_1 := blk_frozen BK106.out 1))
              go_roundg k1
              case measure => have := HK1.out; omega
              case rel => exact ⟨(wrap64 (x7_1 + 1)), (by first | rfl | (simp; done) | (simp [*]; done)), H', ⟨by have := HK1.out; omega⟩, ⟨by repeat (first | (with_reducible first | exact HB.out | apply below_alloc | apply pw_below_drewN | apply below_drew1 | refine below_set ?_ GE106.out) | exact HB.out)⟩⟩
          · rw [if_neg c4] at H
            exact absurd H (by simp)
        · rw [if_neg c3] at H
          exact absurd H (by simp)
      · rw [if_neg c2] at H
        have c2b0 : decide (x7_1 < (l0.length : Int)) = false := decide_eq_false c2
        clear c2
        obtain rfl := Option.some.inj H
        go_wp2
        go_ret
        exact ⟨by first | rfl | (simp [errW_none, errW_some] <;> rfl) | (simp [*, errW_none, errW_some] <;> rfl), by repeat (first | (with_reducible first | exact HB.out | apply below_alloc | apply pw_below_drewN | apply below_drew1) | exact HB.out)⟩

def editor_outside.l0 : Nat → List (S23) → Int → Int → Option (Bool)
  | 0, _, _, _ => none
  | k + 1, x5, x6, x7 => if x7 < x6 then (if 0 ≤ x7 then (if x7 < (x5.length : Int) then (if ((rd_T23 x5 x7).f1) < 0 then (some true) else (if ((rd_T23 x5 x7).f1) > (((rd_T23 x5 x7).f0).size : Int) then (some true) else (editor_outside.l0 k x5 x6 (wrap64 (x7 + 1))))) else (none)) else (none)) else (some false)
def editor_outside.f (k : Nat) (l0 : List (S23)) : Option (Bool) := editor_outside.l0 k l0 (l0.length : Int) 0
set_option maxHeartbeats 8000000 in
set_option maxRecDepth 100000 in
theorem editor_outside.calls (k : Nat) (A0 : Option Addr) (c0 : Nat) (l0 : List (S23)) (r : Bool) (w : World) (hr0 : Kd.C k23 w A0 l0.length l0) (hc0 : l0.length ≤ c0) (h : editor_outside.f k l0 = some r) :
    Calls Try.prog 22 #[.slice A0 l0.length c0] w fun e w' => e = .returned (.bool r) ∧ Below w.heap.size w w' := by
  have hu23 := Try.underlying23
  have HR0 := Aside0.mk hr0
  have HC0 := Aside0.mk hc0
  clear hr0 hc0
  have HB := Aside0.mk (Below.refl w.heap.size w)
  have H : (editor_outside.l0 k l0 (l0.length : Int) 0) = some r := h
  clear h
  have H' := Aside0.mk H
  clear H
  go_enter Try.func22, Try.ntmps22
  go_wp2
  go_loopg [7] k (fun kq v7 w' => ∃ (x7_1 : Int), v7 = .int .i64 x7_1 ∧ Aside0 (editor_outside.l0 kq l0 (l0.length : Int) x7_1 = some r) ∧ Aside0 (kq ≤ k) ∧ Aside0 (Below w.heap.size w w'))
  case atStart => exact ⟨(0), (by first | rfl | (simp; done) | (simp [*]; done)), H', ⟨Nat.le_refl _⟩, ⟨by repeat (first | (with_reducible first | exact HB.out | apply below_alloc | apply pw_below_drewN | apply below_drew1) | exact HB.out)⟩⟩
  case round =>
    clear H'
    obtain ⟨x7_1, rfl, HA, HK1, HB⟩ := hrel
    cases gk with
    | zero => exact absurd HA.out (by simp [editor_outside.l0])
    | succ k1 =>
      have H := HA.out
      clear HA
      simp only [editor_outside.l0] at H
      by_cases c2 : x7_1 < (l0.length : Int)
      · rw [if_pos c2] at H
        have c2b0 : decide (x7_1 < (l0.length : Int)) = true := decide_eq_true c2
        clear c2
        by_cases c3 : 0 ≤ x7_1
        · rw [if_pos c3] at H
          have c3b0 : decide (0 ≤ x7_1) = true := decide_eq_true c3
          clear c3
          by_cases c4 : x7_1 < (l0.length : Int)
          · rw [if_pos c4] at H
            have c4b0 : decide (x7_1 < (l0.length : Int)) = true := decide_eq_true c4
            clear c4
            by_cases c5 : ((rd_T23 l0 x7_1).f1) < 0
            · rw [if_pos c5] at H
              have c5b0 : decide (((rd_T23 l0 x7_1).f1) < 0) = true := decide_eq_true c5
              clear c5
              obtain rfl := Option.some.inj H
              have p107 : 0 ≤ (x7_1 : Int) := of_decide_eq_true (by first | (with_reducible assumption) | assumption)
              have q107 : x7_1 < (l0.length : Int) := of_decide_eq_true (by first | (with_reducible assumption) | assumption)
              obtain ⟨ad107, e107, hx107_0, hx107_1⟩ := at_T23 HR0.out x7_1 p107 q107
              cases e107
              replace hx107_0 := (HB.out.cell (World.block_lt_of_cell? w _ hx107_0)).trans hx107_0
              replace hx107_1 := (HB.out.cell (World.block_lt_of_cell? w _ hx107_1)).trans hx107_1
              replace p107 := eq_true p107
              replace q107 := eq_true q107
              go_wp2_with (first | ((with_reducible refine gate_dst (N := 4) rfl ?_); (try (refine gate_guard (by rfl) ?_; dsimp only)); refine box_event ?hg (N := 4) ?hd (cs := #[.string (⟨#[]⟩ : ByteArray), .int .i64 0]) (t := 23) ?hr ?_; (case hd => rfl); (case hg => rfl); (case hr => first | (go_simp; done) | (go_simp; rfl)); intro gb108 hg w6 hbox hb; have n0_ := Aside0.mk (below_step (by repeat (first | (with_reducible first | exact HB.out | apply below_alloc | apply pw_below_drewN | apply below_drew1) | exact HB.out)) hb); have n1_ := Aside0.mk (hbox); have n2_ := Aside0.mk ((by rw [hg]; exact (below_size (by repeat (first | (with_reducible first | exact HB.out | apply below_alloc | apply pw_below_drewN | apply below_drew1) | exact HB.out))) : w.heap.size ≤ gb108)); have n3_ := Aside0.mk ((by rw [hg]; exact (below_size (by repeat (first | (with_reducible first | exact HB.out | apply below_alloc | apply pw_below_drewN | apply below_drew1) | exact HB.out))) : w.heap.size ≤ gb108)); clear HB; have HB := n0_; have BK108 := n1_; have GW108 := n2_; have GE108 := n3_; clear n0_ n1_ n2_ n3_; clear hb hbox hg; have hcz7_0 : w6.cell? ⟨gb108, 0, none⟩ = some (.string (⟨#[]⟩ : ByteArray)) := (blk_cell BK108.out 0).trans rfl; have hcz7_1 : w6.cell? ⟨gb108, 1, none⟩ = some (.int .i64 0) := (blk_cell BK108.out 1).trans rfl; have hfz7_0 := blk_frozen BK108.out 0; have hfz7_1 := blk_frozen BK108.out 1))
              go_ret
              exact ⟨by first | rfl | (simp [errW_none, errW_some] <;> rfl) | (simp [*, errW_none, errW_some] <;> rfl), by repeat (first | (with_reducible first | exact HB.out | apply below_alloc | apply pw_below_drewN | apply below_drew1 | refine below_set ?_ GE108.out) | exact HB.out)⟩
            · rw [if_neg c5] at H
              have c5b0 : decide (((rd_T23 l0 x7_1).f1) < 0) = false := decide_eq_false c5
              clear c5
              by_cases c8 : ((rd_T23 l0 x7_1).f1) > (((rd_T23 l0 x7_1).f0).size : Int)
              · rw [if_pos c8] at H
                have c8b0 : decide ((((rd_T23 l0 x7_1).f0).size : Int) < ((rd_T23 l0 x7_1).f1)) = true := decide_eq_true c8
                clear c8
                obtain rfl := Option.some.inj H
                have p107 : 0 ≤ (x7_1 : Int) := of_decide_eq_true (by first | (with_reducible assumption) | assumption)
                have q107 : x7_1 < (l0.length : Int) := of_decide_eq_true (by first | (with_reducible assumption) | assumption)
                obtain ⟨ad107, e107, hx107_0, hx107_1⟩ := at_T23 HR0.out x7_1 p107 q107
                cases e107
                replace hx107_0 := (HB.out.cell (World.block_lt_of_cell? w _ hx107_0)).trans hx107_0
                replace hx107_1 := (HB.out.cell (World.block_lt_of_cell? w _ hx107_1)).trans hx107_1
                replace p107 := eq_true p107
                replace q107 := eq_true q107
                go_wp2_with (first | ((with_reducible refine gate_dst (N := 4) rfl ?_); (try (refine gate_guard (by rfl) ?_; dsimp only)); refine box_event ?hg (N := 4) ?hd (cs := #[.string (⟨#[]⟩ : ByteArray), .int .i64 0]) (t := 23) ?hr ?_; (case hd => rfl); (case hg => rfl); (case hr => first | (go_simp; done) | (go_simp; rfl)); intro gb108 hg w9 hbox hb; have n0_ := Aside0.mk (below_step (by repeat (first | (with_reducible first | exact HB.out | apply below_alloc | apply pw_below_drewN | apply below_drew1) | exact HB.out)) hb); have n1_ := Aside0.mk (hbox); have n2_ := Aside0.mk ((by rw [hg]; exact (below_size (by repeat (first | (with_reducible first | exact HB.out | apply below_alloc | apply pw_below_drewN | apply below_drew1) | exact HB.out))) : w.heap.size ≤ gb108)); have n3_ := Aside0.mk ((by rw [hg]; exact (below_size (by repeat (first | (with_reducible first | exact HB.out | apply below_alloc | apply pw_below_drewN | apply below_drew1) | exact HB.out))) : w.heap.size ≤ gb108)); clear HB; have HB := n0_; have BK108 := n1_; have GW108 := n2_; have GE108 := n3_; clear n0_ n1_ n2_ n3_; clear hb hbox hg; have hcz10_0 : w9.cell? ⟨gb108, 0, none⟩ = some (.string (⟨#[]⟩ : ByteArray)) := (blk_cell BK108.out 0).trans rfl; have hcz10_1 : w9.cell? ⟨gb108, 1, none⟩ = some (.int .i64 0) := (blk_cell BK108.out 1).trans rfl; have hfz10_0 := blk_frozen BK108.out 0; have hfz10_1 := blk_frozen BK108.out 1))
                go_ret
                exact ⟨by first | rfl | (simp [errW_none, errW_some] <;> rfl) | (simp [*, errW_none, errW_some] <;> rfl), by repeat (first | (with_reducible first | exact HB.out | apply below_alloc | apply pw_below_drewN | apply below_drew1 | refine below_set ?_ GE108.out) | exact HB.out)⟩
              · rw [if_neg c8] at H
                have c8b0 : decide ((((rd_T23 l0 x7_1).f0).size : Int) < ((rd_T23 l0 x7_1).f1)) = false := decide_eq_false c8
                clear c8
                have H' := Aside0.mk H
                clear H
                have p107 : 0 ≤ (x7_1 : Int) := of_decide_eq_true (by first | (with_reducible assumption) | assumption)
                have q107 : x7_1 < (l0.length : Int) := of_decide_eq_true (by first | (with_reducible assumption) | assumption)
                obtain ⟨ad107, e107, hx107_0, hx107_1⟩ := at_T23 HR0.out x7_1 p107 q107
                cases e107
                replace hx107_0 := (HB.out.cell (World.block_lt_of_cell? w _ hx107_0)).trans hx107_0
                replace hx107_1 := (HB.out.cell (World.block_lt_of_cell? w _ hx107_1)).trans hx107_1
                replace p107 := eq_true p107
                replace q107 := eq_true q107
                go_wp2_with (first | ((with_reducible refine gate_dst (N := 4) rfl ?_); (try (refine gate_guard (by rfl) ?_; dsimp only)); refine box_event ?hg (N := 4) ?hd (cs := #[.string (⟨#[]⟩ : ByteArray), .int .i64 0]) (t := 23) ?hr ?_; (case hd => rfl); (case hg => rfl); (case hr => first | (go_simp; done) | (go_simp; rfl)); intro gb108 hg w11 hbox hb; have n0_ := Aside0.mk (below_step (by repeat (first | (with_reducible first | exact HB.out | apply below_alloc | apply pw_below_drewN | apply below_drew1) | exact HB.out)) hb); have n1_ := Aside0.mk (hbox); have n2_ := Aside0.mk ((by rw [hg]; exact (below_size (by repeat (first | (with_reducible first | exact HB.out | apply below_alloc | apply pw_below_drewN | apply below_drew1) | exact HB.out))) : w.heap.size ≤ gb108)); have n3_ := Aside0.mk ((by rw [hg]; exact (below_size (by repeat (first | (with_reducible first | exact HB.out | apply below_alloc | apply pw_below_drewN | apply below_drew1) | exact HB.out))) : w.heap.size ≤ gb108)); clear HB; have HB := n0_; have BK108 := n1_; have GW108 := n2_; have GE108 := n3_; clear n0_ n1_ n2_ n3_; clear hb hbox hg; have hcz12_0 : w11.cell? ⟨gb108, 0, none⟩ = some (.string (⟨#[]⟩ : ByteArray)) := (blk_cell BK108.out 0).trans rfl; have hcz12_1 : w11.cell? ⟨gb108, 1, none⟩ = some (.int .i64 0) := (blk_cell BK108.out 1).trans rfl; have hfz12_0 := blk_frozen BK108.out 0; have hfz12_1 := blk_frozen BK108.out 1))
                go_roundg k1
                case measure => have := HK1.out; omega
                case rel => exact ⟨(wrap64 (x7_1 + 1)), (by first | rfl | (simp; done) | (simp [*]; done)), H', ⟨by have := HK1.out; omega⟩, ⟨by repeat (first | (with_reducible first | exact HB.out | apply below_alloc | apply pw_below_drewN | apply below_drew1 | refine below_set ?_ GE108.out) | exact HB.out)⟩⟩
          · rw [if_neg c4] at H
            exact absurd H (by simp)
        · rw [if_neg c3] at H
          exact absurd H (by simp)
      · rw [if_neg c2] at H
        have c2b0 : decide (x7_1 < (l0.length : Int)) = false := decide_eq_false c2
        clear c2
        obtain rfl := Option.some.inj H
        go_wp2
        go_ret
        exact ⟨by first | rfl | (simp [errW_none, errW_some] <;> rfl) | (simp [*, errW_none, errW_some] <;> rfl), by repeat (first | (with_reducible first | exact HB.out | apply below_alloc | apply pw_below_drewN | apply below_drew1) | exact HB.out)⟩

end Go.Proofs.Ytlbbjdggebgabaa.P
end
