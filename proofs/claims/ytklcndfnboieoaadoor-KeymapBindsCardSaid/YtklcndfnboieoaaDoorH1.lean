/- The contracts of keymap.form and keymap.Parse, for every string, in any world that holds the table 'named'. -/
import Derived.Test.YtklcndfnboieoaaDoorH0
import Derived.Test.YtklcndfnboieoaaDoorShelf
namespace Go.Proofs.YtklcndfnboieoaaDoor.H
open Go.RowKit Go.Proofs.YtklcndfnboieoaaDoorW.PrintWords Go.Proofs.YtklcndfnboieoaaDoorW.PrintLast Go.Proofs.YtklcndfnboieoaaDoorW.PrintMore Go.Proofs.YtklcndfnboieoaaDoor.PKeymapParses

/-- What stands behind the table in keymap.form. -/
def formRest (k : Nat) (s : ByteArray) : Option (Int × Int × Int) :=
  if bt s 0 = 67 then (keymap_control.f (s.extract 1 s.size)).bind fun t => some (t.1, wrap64 (t.2.1 + 1), t.2.2)
  else if bt s 0 = 120 then (keymap_coded.f k (s.extract 1 s.size)).bind fun t => some (t.1, wrap64 (t.2.1 + 1), t.2.2)
  else if bt s 0 = 77 then (if (s.size : Int) = 1 then some (0, 1, 7) else if s.toList = [77, 45] then some (0, 1, 7) else if bt s 1 = 45 then some (27, 2, 0) else some (0, 1, 6))
  else some (0, 1, 6)
/-- What keymap.form gives. -/
def keymap_form.f (k : Nat) (s : ByteArray) : Option (Int × Int × Int) :=
  if s.toList = [] then some (0, 0, 7)
  else if bt s 0 = 101 then some (27, 1, 0) else if bt s 0 = 100 then some (127, 1, 0) else if bt s 0 = 116 then some (9, 1, 0) else if bt s 0 = 110 then some (10, 1, 0) else if bt s 0 = 92 then some (92, 1, 0)
  else formRest k s

theorem size_pos {s : ByteArray} (h : ¬ s.toList = []) : 0 < s.size := by
  rcases Nat.eq_zero_or_pos s.size with h0 | h0
  · exact absurd (List.eq_nil_of_length_eq_zero (by rw [ByteArray.toList_eq, data_length]; exact h0)) h
  · exact h0

set_option maxHeartbeats 1000000 in
set_option maxRecDepth 100000 in
theorem keymap_form.calls (k : Nat) (s : ByteArray) (r1 r2 r3 : Int) (w : World) (hG : Laid w) (h : keymap_form.f k s = some (r1, r2, r3)) :
    Calls Tryd.prog 25 #[.string s] w fun e w' => e = .returned (.tuple #[.int .u8 r1, .int .i64 r2, .int .i64 r3]) ∧ Below w.heap.size w w' := by
  obtain ⟨tt, fr, hg⟩ := hG
  have hgl : 0 < w.heap.size := Laid.lt ⟨tt, fr, hg⟩
  have HB := Aside0.mk (Below.refl w.heap.size w)
  unfold keymap_form.f at h
  by_cases c2 : s.toList = []
  · rw [if_pos c2] at h
    have c2b0 : (s.toList == ([] : List UInt8)) = true := beq_iff_eq.mpr c2
    simp only [Option.some.injEq, Prod.mk.injEq] at h
    obtain ⟨rfl, rfl, rfl⟩ := h
    clear c2 hg
    go_enter Tryd.func25, Tryd.ntmps25
    go_wp2
    go_ret3
    exact ⟨rfl, HB.out⟩
  · rw [if_neg c2] at h
    have hp := size_pos c2
    have c2b0 : (s.toList == ([] : List UInt8)) = false := beq_eq_false_iff_ne.mpr c2
    have q4 : (0 < s.size) = True := eq_true hp
    have hx4 : ∀ h : 0 < s.size, ((s[0]'h).toNat : Int) = bt s 0 := bt_at s 0
    have qi4 : (0 < (s.size : Int)) = True := eq_true (by omega)
    have H := Lib.hid h
    clear h c2
    go_enter Tryd.func25, Tryd.ntmps25
    go_wp2_with (refine wpList_load_row rfl 63 _ rfl 0 rfl tt _ fr _ hg Tryd.underlying63 rfl (by kernel_rfl) ?_)
    clear hg
    have i0 := idx0; have i1 := idx1; have i2 := idx2; have i3 := idx3; have i4 := idx4
    go_loopw [13] (fun i wr => ∃ k : Nat, k ≤ 5 ∧ i = .int .i64 k ∧ Aside0 (NoLetter (bt s 0) k) ∧ Aside0 (Below w.heap.size w wr)) (fun i _ => 5 - (intOf i).toNat)
    case atStart => exact ⟨0, by omega, rfl, ⟨fun j hj => by omega⟩, HB⟩
    case round =>
      clear HB
      obtain ⟨kk, hk, rfl, HN, HB⟩ := hrel
      rcases (by omega : kk = 0 ∨ kk = 1 ∨ kk = 2 ∨ kk = 3 ∨ kk = 4 ∨ kk = 5) with rfl | rfl | rfl | rfl | rfl | rfl
      · by_cases hc : bt s 0 = 101
        · have H2 := H.out
          clear H
          rw [if_pos hc] at H2
          simp only [Option.some.injEq, Prod.mk.injEq] at H2
          obtain ⟨rfl, rfl, rfl⟩ := H2
          skip
          clear HN
          have hc1 : (101 == bt s 0) = true := by simp; omega
          clear hc
          go_wp2
          go_region
          go_wp2
          go_ret3
          exact ⟨rfl, (by repeat (first | (with_reducible first | exact HB.out | apply below_alloc | apply pw_below_drewN | apply below_drew1) | exact HB.out))⟩
        · have hc1 : (101 == bt s 0) = false := by simp; omega
          go_wp2
          go_region
          go_wp2
          exact ⟨⟨1, by omega, rfl, ⟨HN.out.succ (fun h => hc h.symm)⟩, ⟨(by repeat (first | (with_reducible first | exact HB.out | apply below_alloc | apply pw_below_drewN | apply below_drew1) | exact HB.out))⟩⟩, by simp [intOf]⟩
      · by_cases hc : bt s 0 = 100
        · have H2 := H.out
          clear H
          have m0 : ¬ bt s 0 = 101 := fun h_ => HN.out 0 (by omega) h_.symm; rw [if_neg m0, if_pos hc] at H2
          simp only [Option.some.injEq, Prod.mk.injEq] at H2
          obtain ⟨rfl, rfl, rfl⟩ := H2
          clear m0
          clear HN
          have hc1 : (100 == bt s 0) = true := by simp; omega
          clear hc
          go_wp2
          go_region
          go_wp2
          go_ret3
          exact ⟨rfl, (by repeat (first | (with_reducible first | exact HB.out | apply below_alloc | apply pw_below_drewN | apply below_drew1) | exact HB.out))⟩
        · have hc1 : (100 == bt s 0) = false := by simp; omega
          go_wp2
          go_region
          go_wp2
          exact ⟨⟨2, by omega, rfl, ⟨HN.out.succ (fun h => hc h.symm)⟩, ⟨(by repeat (first | (with_reducible first | exact HB.out | apply below_alloc | apply pw_below_drewN | apply below_drew1) | exact HB.out))⟩⟩, by simp [intOf]⟩
      · by_cases hc : bt s 0 = 116
        · have H2 := H.out
          clear H
          have m0 : ¬ bt s 0 = 101 := fun h_ => HN.out 0 (by omega) h_.symm; have m1 : ¬ bt s 0 = 100 := fun h_ => HN.out 1 (by omega) h_.symm; rw [if_neg m0, if_neg m1, if_pos hc] at H2
          simp only [Option.some.injEq, Prod.mk.injEq] at H2
          obtain ⟨rfl, rfl, rfl⟩ := H2
          clear m0 m1
          clear HN
          have hc1 : (116 == bt s 0) = true := by simp; omega
          clear hc
          go_wp2
          go_region
          go_wp2
          go_ret3
          exact ⟨rfl, (by repeat (first | (with_reducible first | exact HB.out | apply below_alloc | apply pw_below_drewN | apply below_drew1) | exact HB.out))⟩
        · have hc1 : (116 == bt s 0) = false := by simp; omega
          go_wp2
          go_region
          go_wp2
          exact ⟨⟨3, by omega, rfl, ⟨HN.out.succ (fun h => hc h.symm)⟩, ⟨(by repeat (first | (with_reducible first | exact HB.out | apply below_alloc | apply pw_below_drewN | apply below_drew1) | exact HB.out))⟩⟩, by simp [intOf]⟩
      · by_cases hc : bt s 0 = 110
        · have H2 := H.out
          clear H
          have m0 : ¬ bt s 0 = 101 := fun h_ => HN.out 0 (by omega) h_.symm; have m1 : ¬ bt s 0 = 100 := fun h_ => HN.out 1 (by omega) h_.symm; have m2 : ¬ bt s 0 = 116 := fun h_ => HN.out 2 (by omega) h_.symm; rw [if_neg m0, if_neg m1, if_neg m2, if_pos hc] at H2
          simp only [Option.some.injEq, Prod.mk.injEq] at H2
          obtain ⟨rfl, rfl, rfl⟩ := H2
          clear m0 m1 m2
          clear HN
          have hc1 : (110 == bt s 0) = true := by simp; omega
          clear hc
          go_wp2
          go_region
          go_wp2
          go_ret3
          exact ⟨rfl, (by repeat (first | (with_reducible first | exact HB.out | apply below_alloc | apply pw_below_drewN | apply below_drew1) | exact HB.out))⟩
        · have hc1 : (110 == bt s 0) = false := by simp; omega
          go_wp2
          go_region
          go_wp2
          exact ⟨⟨4, by omega, rfl, ⟨HN.out.succ (fun h => hc h.symm)⟩, ⟨(by repeat (first | (with_reducible first | exact HB.out | apply below_alloc | apply pw_below_drewN | apply below_drew1) | exact HB.out))⟩⟩, by simp [intOf]⟩
      · by_cases hc : bt s 0 = 92
        · have H2 := H.out
          clear H
          have m0 : ¬ bt s 0 = 101 := fun h_ => HN.out 0 (by omega) h_.symm; have m1 : ¬ bt s 0 = 100 := fun h_ => HN.out 1 (by omega) h_.symm; have m2 : ¬ bt s 0 = 116 := fun h_ => HN.out 2 (by omega) h_.symm; have m3 : ¬ bt s 0 = 110 := fun h_ => HN.out 3 (by omega) h_.symm; rw [if_neg m0, if_neg m1, if_neg m2, if_neg m3, if_pos hc] at H2
          simp only [Option.some.injEq, Prod.mk.injEq] at H2
          obtain ⟨rfl, rfl, rfl⟩ := H2
          clear m0 m1 m2 m3
          clear HN
          have hc1 : (92 == bt s 0) = true := by simp; omega
          clear hc
          go_wp2
          go_region
          go_wp2
          go_ret3
          exact ⟨rfl, (by repeat (first | (with_reducible first | exact HB.out | apply below_alloc | apply pw_below_drewN | apply below_drew1) | exact HB.out))⟩
        · have hc1 : (92 == bt s 0) = false := by simp; omega
          go_wp2
          go_region
          go_wp2
          exact ⟨⟨5, by omega, rfl, ⟨HN.out.succ (fun h => hc h.symm)⟩, ⟨(by repeat (first | (with_reducible first | exact HB.out | apply below_alloc | apply pw_below_drewN | apply below_drew1) | exact HB.out))⟩⟩, by simp [intOf]⟩
      · have H2 : Hid (formRest k s = some (r1, r2, r3)) := by
          have H2 := H.out
          rw [if_neg (fun h_ => HN.out 0 (by omega) h_.symm), if_neg (fun h_ => HN.out 1 (by omega) h_.symm), if_neg (fun h_ => HN.out 2 (by omega) h_.symm), if_neg (fun h_ => HN.out 3 (by omega) h_.symm), if_neg (fun h_ => HN.out 4 (by omega) h_.symm)] at H2
          exact H2
        clear H HN i0 i1 i2 i3 i4 hk
        have h2 := H2.out
        clear H2
        unfold formRest at h2
        have q5 : 1 ≤ s.size := hp
        have q6 : 1 ≤ (s.size : Int) := by omega
        by_cases g1 : bt s 0 = 67
        · rw [if_pos g1] at h2
          obtain ⟨⟨t1, t2, t3⟩, hA0, h3⟩ := Option.bind_eq_some_iff.mp h2
          simp only [Option.some.injEq, Prod.mk.injEq] at h3
          obtain ⟨rfl, rfl, rfl⟩ := h3
          have hA := Lib.hid hA0
          have g1b : (bt s 0 == 67) = true := beq_iff_eq.mpr g1
          clear h2 hA0 g1
          go_wp2_with (first | (go_at_call 36; (with_reducible refine (keymap_control.calls _ t1 t2 t3 _ hA.out).mono ?_); rintro e w' ⟨rfl, ⟨nd, rfl⟩⟩))
          go_ret3
          exact ⟨rfl, (by repeat (first | (with_reducible first | exact HB.out | apply below_alloc | apply pw_below_drewN | apply below_drew1) | exact HB.out))⟩
        rw [if_neg g1] at h2
        have g1b : (bt s 0 == 67) = false := beq_eq_false_iff_ne.mpr g1
        by_cases g2 : bt s 0 = 120
        · rw [if_pos g2] at h2
          obtain ⟨⟨t1, t2, t3⟩, hA0, h3⟩ := Option.bind_eq_some_iff.mp h2
          simp only [Option.some.injEq, Prod.mk.injEq] at h3
          obtain ⟨rfl, rfl, rfl⟩ := h3
          have hA := Lib.hid hA0
          have g2b : (bt s 0 == 120) = true := beq_iff_eq.mpr g2
          clear h2 hA0 g1 g2
          go_wp2_with (first | (go_at_call 37; (with_reducible refine (keymap_coded.calls k _ t1 t2 t3 _ hA.out).mono ?_); rintro e w' ⟨rfl, ⟨nd, rfl⟩⟩))
          go_ret3
          exact ⟨rfl, (by repeat (first | (with_reducible first | exact HB.out | apply below_alloc | apply pw_below_drewN | apply below_drew1) | exact HB.out))⟩
        rw [if_neg g2] at h2
        have g2b : (bt s 0 == 120) = false := beq_eq_false_iff_ne.mpr g2
        by_cases g3 : bt s 0 = 77
        · rw [if_pos g3] at h2
          have g3b : (bt s 0 == 77) = true := beq_iff_eq.mpr g3
          clear g1 g2 g3
          by_cases g4 : (s.size : Int) = 1
          · rw [if_pos g4] at h2
            simp only [Option.some.injEq, Prod.mk.injEq] at h2
            obtain ⟨rfl, rfl, rfl⟩ := h2
            have g4b : ((s.size : Int) == 1) = true := beq_iff_eq.mpr g4
            clear g4
            go_wp2
            go_ret3
            exact ⟨rfl, (by repeat (first | (with_reducible first | exact HB.out | apply below_alloc | apply pw_below_drewN | apply below_drew1) | exact HB.out))⟩
          · rw [if_neg g4] at h2
            have g4b : ((s.size : Int) == 1) = false := beq_eq_false_iff_ne.mpr g4
            have q7 : (1 < s.size) = True := eq_true (by omega)
            have hx5 : ∀ h : 1 < s.size, ((s[1]'h).toNat : Int) = bt s 1 := bt_at s 1
            have qi7 : (1 < (s.size : Int)) = True := eq_true (by omega)
            clear g4
            by_cases g5 : s.toList = [77, 45]
            · rw [if_pos g5] at h2
              simp only [Option.some.injEq, Prod.mk.injEq] at h2
              obtain ⟨rfl, rfl, rfl⟩ := h2
              have g5b : (s.toList == ([77, 45] : List UInt8)) = true := beq_iff_eq.mpr g5
              clear g5
              go_wp2
              go_ret3
              exact ⟨rfl, (by repeat (first | (with_reducible first | exact HB.out | apply below_alloc | apply pw_below_drewN | apply below_drew1) | exact HB.out))⟩
            · rw [if_neg g5] at h2
              have g5b : (s.toList == ([77, 45] : List UInt8)) = false := beq_eq_false_iff_ne.mpr g5
              clear g5
              by_cases g6 : bt s 1 = 45
              · rw [if_pos g6] at h2
                simp only [Option.some.injEq, Prod.mk.injEq] at h2
                obtain ⟨rfl, rfl, rfl⟩ := h2
                have g6b : (bt s 1 == 45) = true := beq_iff_eq.mpr g6
                clear g6
                go_wp2
                go_ret3
                exact ⟨rfl, (by repeat (first | (with_reducible first | exact HB.out | apply below_alloc | apply pw_below_drewN | apply below_drew1) | exact HB.out))⟩
              · rw [if_neg g6] at h2
                simp only [Option.some.injEq, Prod.mk.injEq] at h2
                obtain ⟨rfl, rfl, rfl⟩ := h2
                have g6b : (bt s 1 == 45) = false := beq_eq_false_iff_ne.mpr g6
                clear g6
                go_wp2
                go_ret3
                exact ⟨rfl, (by repeat (first | (with_reducible first | exact HB.out | apply below_alloc | apply pw_below_drewN | apply below_drew1) | exact HB.out))⟩
        · rw [if_neg g3] at h2
          simp only [Option.some.injEq, Prod.mk.injEq] at h2
          obtain ⟨rfl, rfl, rfl⟩ := h2
          have g3b : (bt s 0 == 77) = false := beq_eq_false_iff_ne.mpr g3
          clear g1 g2 g3
          go_wp2
          go_ret3
          exact ⟨rfl, (by repeat (first | (with_reducible first | exact HB.out | apply below_alloc | apply pw_below_drewN | apply below_drew1) | exact HB.out))⟩
end Go.Proofs.YtklcndfnboieoaaDoor.H
