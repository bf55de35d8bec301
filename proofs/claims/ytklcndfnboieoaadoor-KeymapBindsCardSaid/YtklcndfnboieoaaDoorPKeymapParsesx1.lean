-- PRINTED BY print.sh 35421559b90ae4d0a3588c463048766b98c2df88dd9212a6774a882060cdf62d: not written by this session
import Derived.Test.YtklcndfnboieoaaDoorPKeymapParsesx0
namespace Go.Proofs.YtklcndfnboieoaaDoor.PKeymapParses
open Go.RowKit Go.Proofs.YtklcndfnboieoaaDoorW.PrintWords Go.Proofs.YtklcndfnboieoaaDoorW.PrintLast Go.Proofs.YtklcndfnboieoaaDoorW.PrintMore
attribute [local go_sem] max2_int min2_int max_two min_two max_three min_three max_four min_four   -- for this text's walks alone
set_option linter.unusedVariables false
set_option linter.unusedSimpArgs false

-- NOT PRINTED: function 42 (abi_NoEscape)

-- NOT PRINTED: function 35 (strings_Builder_copyCheck)

-- NOT PRINTED: function 24 (strings_Builder_WriteByte)

/-! ### keymap_control: function 36 -/
def keymap_control.f (a0 : ByteArray) : Option (Int × Int × Int) := if a0.toList = ([] : List UInt8) then (some (0, 0, 7)) else (if 0 < (a0.size : Int) then (if (bt a0 0) = 45 then (if (a0.size : Int) = 1 then (some (0, 0, 7)) else (if 1 < (a0.size : Int) then (if (bt a0 1) < 97 then (some (0, 0, 6)) else (if (bt a0 1) > 122 then (some (0, 0, 6)) else (some (((((bt a0 1) - 97) % 256) + 1) % 256, 2, 0)))) else (none))) else (some (0, 0, 6))) else (none))
set_option maxHeartbeats 8000000 in
set_option maxRecDepth 100000 in
theorem keymap_control.calls (a0 : ByteArray) (r1 : Int) (r2 : Int) (r3 : Int) (w : World) (h : keymap_control.f a0 = some (r1, r2, r3)) :
    Calls Tryd.prog 36 #[.string a0] w fun e w' => e = .returned (.tuple #[.int .u8 r1, .int .i64 r2, .int .i64 r3]) ∧ Drawn0 w w' := by
  have H : (if a0.toList = ([] : List UInt8) then (some (0, 0, 7)) else (if 0 < (a0.size : Int) then (if (bt a0 0) = 45 then (if (a0.size : Int) = 1 then (some (0, 0, 7)) else (if 1 < (a0.size : Int) then (if (bt a0 1) < 97 then (some (0, 0, 6)) else (if (bt a0 1) > 122 then (some (0, 0, 6)) else (some (((((bt a0 1) - 97) % 256) + 1) % 256, 2, 0)))) else (none))) else (some (0, 0, 6))) else (none))) = some (r1, r2, r3) := h
  clear h
  by_cases c2 : a0.toList = ([] : List UInt8)
  · rw [if_pos c2] at H
    have c2b0 : (a0.toList == ([] : List UInt8)) = true := beq_iff_eq.mpr c2
    have c2b1 : (a0.toList != ([] : List UInt8)) = false := bne_eq_false_iff_eq.mpr c2
    clear c2
    simp only [Option.some.injEq, Prod.mk.injEq] at H
    obtain ⟨rfl, rfl, rfl⟩ := H
    go_enter Tryd.func36, Tryd.ntmps36
    go_wp2
    go_ret3
    exact ⟨by first | rfl | (simp; done) | (simp [*]; done), by repeat (first | exact Drawn0.refl _ | apply Drawn0.step)⟩
  · rw [if_neg c2] at H
    have c2b0 : (a0.toList == ([] : List UInt8)) = false := beq_eq_false_iff_ne.mpr c2
    have c2b1 : (a0.toList != ([] : List UInt8)) = true := bne_iff_ne.mpr c2
    by_cases c3 : 0 < (a0.size : Int)
    · rw [if_pos c3] at H
      have c3b0 : decide (0 < (a0.size : Int)) = true := decide_eq_true c3
      have c3b1 : decide (0 < a0.size) = true := decide_eq_true (by omega)
      clear c3
      by_cases c5 : (bt a0 0) = 45
      · rw [if_pos c5] at H
        have c5b0 : ((bt a0 0) == 45) = true := beq_iff_eq.mpr c5
        have c5b1 : ((bt a0 0) != 45) = false := bne_eq_false_iff_eq.mpr c5
        clear c5
        by_cases c6 : (a0.size : Int) = 1
        · rw [if_pos c6] at H
          have c6b0 : ((a0.size : Int) == 1) = true := beq_iff_eq.mpr c6
          have c6b1 : ((a0.size : Int) != 1) = false := bne_eq_false_iff_eq.mpr c6
          clear c6
          simp only [Option.some.injEq, Prod.mk.injEq] at H
          obtain ⟨rfl, rfl, rfl⟩ := H
          have p4 : 0 ≤ (0 : Int) := (by omega)
          have q4 : 0 < a0.size := (by have : (0 : Int) < (a0.size : Int) := of_decide_eq_true (by first | (with_reducible assumption) | assumption); omega)
          have hx4 : ∀ h : 0 < a0.size, ((a0[0]'h).toNat : Int) = bt a0 0 := bt_at a0 0
          clear p4
          have qi4 : (0 < (a0.size : Int)) = True := eq_true (of_decide_eq_true (by first | (with_reducible assumption) | assumption))
          replace q4 := eq_true q4
          go_enter Tryd.func36, Tryd.ntmps36
          go_wp2
          go_ret3
          exact ⟨by first | rfl | (simp; done) | (simp [*]; done), by repeat (first | exact Drawn0.refl _ | apply Drawn0.step)⟩
        · rw [if_neg c6] at H
          have c6b0 : ((a0.size : Int) == 1) = false := beq_eq_false_iff_ne.mpr c6
          have c6b1 : ((a0.size : Int) != 1) = true := bne_iff_ne.mpr c6
          by_cases c7 : 1 < (a0.size : Int)
          · rw [if_pos c7] at H
            have c7b0 : decide (1 < (a0.size : Int)) = true := decide_eq_true c7
            have c7b1 : decide (1 < a0.size) = true := decide_eq_true (by omega)
            clear c7
            by_cases c9 : (bt a0 1) < 97
            · rw [if_pos c9] at H
              have c9b0 : decide ((bt a0 1) < 97) = true := decide_eq_true c9
              clear c9
              simp only [Option.some.injEq, Prod.mk.injEq] at H
              obtain ⟨rfl, rfl, rfl⟩ := H
              have p4 : 0 ≤ (0 : Int) := (by omega)
              have q4 : 0 < a0.size := (by have : (0 : Int) < (a0.size : Int) := of_decide_eq_true (by first | (with_reducible assumption) | assumption); omega)
              have hx4 : ∀ h : 0 < a0.size, ((a0[0]'h).toNat : Int) = bt a0 0 := bt_at a0 0
              clear p4
              have qi4 : (0 < (a0.size : Int)) = True := eq_true (of_decide_eq_true (by first | (with_reducible assumption) | assumption))
              replace q4 := eq_true q4
              have p8 : 0 ≤ (1 : Int) := (by omega)
              have q8 : 1 < a0.size := (by have : (1 : Int) < (a0.size : Int) := of_decide_eq_true (by first | (with_reducible assumption) | assumption); omega)
              have hx8 : ∀ h : 1 < a0.size, ((a0[1]'h).toNat : Int) = bt a0 1 := bt_at a0 1
              clear p8
              have qi8 : (1 < (a0.size : Int)) = True := eq_true (of_decide_eq_true (by first | (with_reducible assumption) | assumption))
              replace q8 := eq_true q8
              go_enter Tryd.func36, Tryd.ntmps36
              go_wp2
              go_ret3
              exact ⟨by first | rfl | (simp; done) | (simp [*]; done), by repeat (first | exact Drawn0.refl _ | apply Drawn0.step)⟩
            · rw [if_neg c9] at H
              have c9b0 : decide ((bt a0 1) < 97) = false := decide_eq_false c9
              clear c9
              by_cases c11 : (bt a0 1) > 122
              · rw [if_pos c11] at H
                have c11b0 : decide (122 < (bt a0 1)) = true := decide_eq_true c11
                clear c11
                simp only [Option.some.injEq, Prod.mk.injEq] at H
                obtain ⟨rfl, rfl, rfl⟩ := H
                have p4 : 0 ≤ (0 : Int) := (by omega)
                have q4 : 0 < a0.size := (by have : (0 : Int) < (a0.size : Int) := of_decide_eq_true (by first | (with_reducible assumption) | assumption); omega)
                have hx4 : ∀ h : 0 < a0.size, ((a0[0]'h).toNat : Int) = bt a0 0 := bt_at a0 0
                clear p4
                have qi4 : (0 < (a0.size : Int)) = True := eq_true (of_decide_eq_true (by first | (with_reducible assumption) | assumption))
                replace q4 := eq_true q4
                have p8 : 0 ≤ (1 : Int) := (by omega)
                have q8 : 1 < a0.size := (by have : (1 : Int) < (a0.size : Int) := of_decide_eq_true (by first | (with_reducible assumption) | assumption); omega)
                have hx8 : ∀ h : 1 < a0.size, ((a0[1]'h).toNat : Int) = bt a0 1 := bt_at a0 1
                clear p8
                have qi8 : (1 < (a0.size : Int)) = True := eq_true (of_decide_eq_true (by first | (with_reducible assumption) | assumption))
                replace q8 := eq_true q8
                have p10 : 0 ≤ (1 : Int) := (by omega)
                have q10 : 1 < a0.size := (by have : (1 : Int) < (a0.size : Int) := of_decide_eq_true (by first | (with_reducible assumption) | assumption); omega)
                have hx10 : ∀ h : 1 < a0.size, ((a0[1]'h).toNat : Int) = bt a0 1 := bt_at a0 1
                clear p10
                have qi10 : (1 < (a0.size : Int)) = True := eq_true (of_decide_eq_true (by first | (with_reducible assumption) | assumption))
                replace q10 := eq_true q10
                go_enter Tryd.func36, Tryd.ntmps36
                go_wp2
                go_ret3
                exact ⟨by first | rfl | (simp; done) | (simp [*]; done), by repeat (first | exact Drawn0.refl _ | apply Drawn0.step)⟩
              · rw [if_neg c11] at H
                have c11b0 : decide (122 < (bt a0 1)) = false := decide_eq_false c11
                clear c11
                simp only [Option.some.injEq, Prod.mk.injEq] at H
                obtain ⟨rfl, rfl, rfl⟩ := H
                have p4 : 0 ≤ (0 : Int) := (by omega)
                have q4 : 0 < a0.size := (by have : (0 : Int) < (a0.size : Int) := of_decide_eq_true (by first | (with_reducible assumption) | assumption); omega)
                have hx4 : ∀ h : 0 < a0.size, ((a0[0]'h).toNat : Int) = bt a0 0 := bt_at a0 0
                clear p4
                have qi4 : (0 < (a0.size : Int)) = True := eq_true (of_decide_eq_true (by first | (with_reducible assumption) | assumption))
                replace q4 := eq_true q4
                have p8 : 0 ≤ (1 : Int) := (by omega)
                have q8 : 1 < a0.size := (by have : (1 : Int) < (a0.size : Int) := of_decide_eq_true (by first | (with_reducible assumption) | assumption); omega)
                have hx8 : ∀ h : 1 < a0.size, ((a0[1]'h).toNat : Int) = bt a0 1 := bt_at a0 1
                clear p8
                have qi8 : (1 < (a0.size : Int)) = True := eq_true (of_decide_eq_true (by first | (with_reducible assumption) | assumption))
                replace q8 := eq_true q8
                have p10 : 0 ≤ (1 : Int) := (by omega)
                have q10 : 1 < a0.size := (by have : (1 : Int) < (a0.size : Int) := of_decide_eq_true (by first | (with_reducible assumption) | assumption); omega)
                have hx10 : ∀ h : 1 < a0.size, ((a0[1]'h).toNat : Int) = bt a0 1 := bt_at a0 1
                clear p10
                have qi10 : (1 < (a0.size : Int)) = True := eq_true (of_decide_eq_true (by first | (with_reducible assumption) | assumption))
                replace q10 := eq_true q10
                have p12 : 0 ≤ (1 : Int) := (by omega)
                have q12 : 1 < a0.size := (by have : (1 : Int) < (a0.size : Int) := of_decide_eq_true (by first | (with_reducible assumption) | assumption); omega)
                have hx12 : ∀ h : 1 < a0.size, ((a0[1]'h).toNat : Int) = bt a0 1 := bt_at a0 1
                clear p12
                have qi12 : (1 < (a0.size : Int)) = True := eq_true (of_decide_eq_true (by first | (with_reducible assumption) | assumption))
                replace q12 := eq_true q12
                go_enter Tryd.func36, Tryd.ntmps36
                go_wp2
                go_ret3
                exact ⟨by first | rfl | (simp; done) | (simp [*]; done), by repeat (first | exact Drawn0.refl _ | apply Drawn0.step)⟩
          · rw [if_neg c7] at H
            exact absurd H (by simp)
      · rw [if_neg c5] at H
        have c5b0 : ((bt a0 0) == 45) = false := beq_eq_false_iff_ne.mpr c5
        have c5b1 : ((bt a0 0) != 45) = true := bne_iff_ne.mpr c5
        simp only [Option.some.injEq, Prod.mk.injEq] at H
        obtain ⟨rfl, rfl, rfl⟩ := H
        have p4 : 0 ≤ (0 : Int) := (by omega)
        have q4 : 0 < a0.size := (by have : (0 : Int) < (a0.size : Int) := of_decide_eq_true (by first | (with_reducible assumption) | assumption); omega)
        have hx4 : ∀ h : 0 < a0.size, ((a0[0]'h).toNat : Int) = bt a0 0 := bt_at a0 0
        clear p4
        have qi4 : (0 < (a0.size : Int)) = True := eq_true (of_decide_eq_true (by first | (with_reducible assumption) | assumption))
        replace q4 := eq_true q4
        go_enter Tryd.func36, Tryd.ntmps36
        go_wp2
        go_ret3
        exact ⟨by first | rfl | (simp; done) | (simp [*]; done), by repeat (first | exact Drawn0.refl _ | apply Drawn0.step)⟩
    · rw [if_neg c3] at H
      exact absurd H (by simp)

/-! ### keymap_hex: function 43 -/
def keymap_hex.j0 : Nat → Int → Bool → Option (Int × Bool)
  | 0, _, _ => none
  | k + 1, x0, x4 => if x4 = true then (some ((x0 - 48) % 256, true)) else (if x0 ≥ 97 then (if x0 ≤ 102 then (some (((x0 - 97) % 256) + 10, true)) else (some (0, false))) else (some (0, false)))
def keymap_hex.f (k : Nat) (a0 : Int) : Option (Int × Bool) := if a0 ≥ 48 then (keymap_hex.j0 k a0 (decide (a0 ≤ 57))) else (keymap_hex.j0 k a0 false)
theorem keymap_hex.mono_l : ∀ k, (∀ y0 y1, LeO (keymap_hex.j0 k y0 y1) (keymap_hex.j0 (k + 1) y0 y1))
  | 0 => fun _ _ r h => by simp [keymap_hex.j0] at h
  | k + 1 => by
    have ih0 := keymap_hex.mono_l k
    · intro y0 y1
      unfold keymap_hex.j0
      repeat' first
      | (with_reducible exact ih0 _ _)
      | (with_reducible exact LeO.refl _)
      | (with_reducible exact LeO.none _)
      | (with_reducible refine LeO.ite ?_ ?_)
      | (with_reducible refine LeO.bind ?_ (fun _ => ?_))
      | exact ih0 _ _
      | exact LeO.none _
      | refine LeO.ite ?_ ?_
      | refine LeO.bind ?_ (fun _ => ?_)
theorem keymap_hex.mono : ∀ a0 k, LeO (keymap_hex.f k a0) (keymap_hex.f (k + 1) a0) := by
  intro a0 k
  have ih0 := keymap_hex.mono_l k
  unfold keymap_hex.f
  repeat' first
      | (with_reducible exact ih0 _ _)
      | (with_reducible exact LeO.refl _)
      | (with_reducible exact LeO.none _)
      | (with_reducible refine LeO.ite ?_ ?_)
      | (with_reducible refine LeO.bind ?_ (fun _ => ?_))
      | exact ih0 _ _
      | exact LeO.none _
      | refine LeO.ite ?_ ?_
      | refine LeO.bind ?_ (fun _ => ?_)
set_option maxHeartbeats 8000000 in
set_option maxRecDepth 100000 in
theorem keymap_hex.calls (k : Nat) (a0 : Int) (r1 : Int) (r2 : Bool) (w : World) (h : keymap_hex.f k a0 = some (r1, r2)) :
    Calls Tryd.prog 43 #[.int .u8 a0] w fun e w' => e = .returned (.tuple #[.int .i64 r1, .bool r2]) ∧ Drawn0 w w' := by
  have H : (if a0 ≥ 48 then (keymap_hex.j0 k a0 (decide (a0 ≤ 57))) else (keymap_hex.j0 k a0 false)) = some (r1, r2) := h
  clear h
  have HC2 := Aside0.mk H
  clear H
  go_enter Tryd.func43, Tryd.ntmps43
  go_upto_region 1 with (fail)
  go_cut [4] (fun v4 wc => ∃ (kq : Nat) (x4_1 : Bool), v4 = .bool x4_1 ∧ Aside0 (keymap_hex.j0 kq a0 x4_1 = some (r1, r2)) ∧ Aside0 (kq ≤ k) ∧ Drawn0 w wc)
  case first =>
    have H := HC2.out
    clear HC2
    by_cases c3 : a0 ≥ 48
    · rw [if_pos c3] at H
      have c3b0 : decide (48 ≤ a0) = true := decide_eq_true c3
      clear c3
      (first | rw [c3b0] | (simp only [i64_w, i32_w]; rw [c3b0]) | skip)
      have H' := Aside0.mk H
      clear H
      go_wp2
      go_meet
      case rel => exact ⟨_, (decide (a0 ≤ 57)), (by first | rfl | (simp; done) | (simp [*]; done)), H', ⟨by first | omega | exact Nat.le_refl _⟩, by repeat (first | exact Drawn0.refl _ | apply Drawn0.step)⟩
    · rw [if_neg c3] at H
      have c3b0 : decide (48 ≤ a0) = false := decide_eq_false c3
      clear c3
      (first | rw [c3b0] | (simp only [i64_w, i32_w]; rw [c3b0]) | skip)
      have H' := Aside0.mk H
      clear H
      go_wp2
      go_meet
      case rel => exact ⟨_, (false), (by first | rfl | (simp; done) | (simp [*]; done)), H', ⟨by first | omega | exact Nat.le_refl _⟩, by repeat (first | exact Drawn0.refl _ | apply Drawn0.step)⟩
  case rest =>
    clear HC2
    try clear p2
    try clear c3
    try clear c3b0
    obtain ⟨kq, x4_1, rfl, HA, HJ1, ⟨mc1, rfl⟩⟩ := hcut
    cases kq with
    | zero => exact absurd HA.out (by simp [keymap_hex.j0])
    | succ kj1 =>
      have H := HA.out
      clear HA
      simp only [keymap_hex.j0] at H
      by_cases c4 : x4_1 = true
      · subst c4
        have H1 : (some ((a0 - 48) % 256, true)) = some (r1, r2) := by rw [if_pos rfl] at H; exact H
        clear H
        have H := H1
        clear H1
        simp only [Option.some.injEq, Prod.mk.injEq] at H
        obtain ⟨rfl, rfl⟩ := H
        go_wp2
        go_ret2
        exact ⟨by first | rfl | (simp; done) | (simp [*]; done), by repeat (first | exact Drawn0.refl _ | apply Drawn0.step)⟩
      · replace c4 := Bool.eq_false_iff.mpr c4
        subst c4
        have H1 : (if a0 ≥ 97 then (if a0 ≤ 102 then (some (((a0 - 97) % 256) + 10, true)) else (some (0, false))) else (some (0, false))) = some (r1, r2) := by rw [if_neg (show ¬ (false = true) by decide)] at H; exact H
        clear H
        have H := H1
        clear H1
        by_cases c5 : a0 ≥ 97
        · rw [if_pos c5] at H
          have c5b0 : decide (97 ≤ a0) = true := decide_eq_true c5
          clear c5
          by_cases c6 : a0 ≤ 102
          · rw [if_pos c6] at H
            have c6b0 : decide (a0 ≤ 102) = true := decide_eq_true c6
            clear c6
            simp only [Option.some.injEq, Prod.mk.injEq] at H
            obtain ⟨rfl, rfl⟩ := H
            go_wp2
            go_ret2
            exact ⟨by first | rfl | (simp; done) | (simp [*]; done), by repeat (first | exact Drawn0.refl _ | apply Drawn0.step)⟩
          · rw [if_neg c6] at H
            have c6b0 : decide (a0 ≤ 102) = false := decide_eq_false c6
            clear c6
            simp only [Option.some.injEq, Prod.mk.injEq] at H
            obtain ⟨rfl, rfl⟩ := H
            go_wp2
            go_ret2
            exact ⟨by first | rfl | (simp; done) | (simp [*]; done), by repeat (first | exact Drawn0.refl _ | apply Drawn0.step)⟩
        · rw [if_neg c5] at H
          have c5b0 : decide (97 ≤ a0) = false := decide_eq_false c5
          clear c5
          simp only [Option.some.injEq, Prod.mk.injEq] at H
          obtain ⟨rfl, rfl⟩ := H
          go_wp2
          go_ret2
          exact ⟨by first | rfl | (simp; done) | (simp [*]; done), by repeat (first | exact Drawn0.refl _ | apply Drawn0.step)⟩

/-! ### keymap_coded: function 37 -/
def keymap_coded.l0 : Nat → ByteArray → Int → Int → Option (Int × Int × Int)
  | 0, _, _, _ => none
  | k + 1, x0, x5, x9 => if x9 < 2 then (if x9 ≥ (x0.size : Int) then (some (0, 0, 7)) else (if 0 ≤ x9 then (if x9 < (x0.size : Int) then ((keymap_hex.f k (bt x0 x9)).bind fun bt101 => (if bt101.2 = true then (keymap_coded.l0 k x0 (wrap64 ((wrap64 (16 * x5)) + bt101.1)) (wrap64 (x9 + 1))) else (some (0, 0, 6)))) else (none)) else (none))) else (some ((x5) % 256, 2, 0))
def keymap_coded.f (k : Nat) (a0 : ByteArray) : Option (Int × Int × Int) := keymap_coded.l0 k a0 0 0
theorem keymap_coded.mono_l : ∀ k, (∀ y0 y1 y2, LeO (keymap_coded.l0 k y0 y1 y2) (keymap_coded.l0 (k + 1) y0 y1 y2))
  | 0 => fun _ _ _ r h => by simp [keymap_coded.l0] at h
  | k + 1 => by
    have ih0 := keymap_coded.mono_l k
    · intro y0 y1 y2
      unfold keymap_coded.l0
      repeat' first
      | (with_reducible exact ih0 _ _ _)
      | (with_reducible exact keymap_hex.mono _ _)
      | (with_reducible exact LeO.refl _)
      | (with_reducible exact LeO.none _)
      | (with_reducible refine LeO.ite ?_ ?_)
      | (with_reducible refine LeO.bind ?_ (fun _ => ?_))
      | exact ih0 _ _ _
      | exact keymap_hex.mono _ _
      | exact LeO.none _
      | refine LeO.ite ?_ ?_
      | refine LeO.bind ?_ (fun _ => ?_)
theorem keymap_coded.mono : ∀ a0 k, LeO (keymap_coded.f k a0) (keymap_coded.f (k + 1) a0) := by
  intro a0 k
  have ih0 := keymap_coded.mono_l k
  unfold keymap_coded.f
  repeat' first
      | (with_reducible exact ih0 _ _ _)
      | (with_reducible exact keymap_hex.mono _ _)
      | (with_reducible exact LeO.refl _)
      | (with_reducible exact LeO.none _)
      | (with_reducible refine LeO.ite ?_ ?_)
      | (with_reducible refine LeO.bind ?_ (fun _ => ?_))
      | exact ih0 _ _ _
      | exact keymap_hex.mono _ _
      | exact LeO.none _
      | refine LeO.ite ?_ ?_
      | refine LeO.bind ?_ (fun _ => ?_)
set_option maxHeartbeats 8000000 in
set_option maxRecDepth 100000 in
theorem keymap_coded.calls (k : Nat) (a0 : ByteArray) (r1 : Int) (r2 : Int) (r3 : Int) (w : World) (h : keymap_coded.f k a0 = some (r1, r2, r3)) :
    Calls Tryd.prog 37 #[.string a0] w fun e w' => e = .returned (.tuple #[.int .u8 r1, .int .i64 r2, .int .i64 r3]) ∧ Drawn0 w w' := by
  have H : (keymap_coded.l0 k a0 0 0) = some (r1, r2, r3) := h
  clear h
  have H' := Aside0.mk H
  clear H
  go_enter Tryd.func37, Tryd.ntmps37
  go_wp2
  go_loopg [5, 9] k (fun kq v5 v9 w' => ∃ (x5_1 : Int) (x9_1 : Int), v5 = .int .i64 x5_1 ∧ v9 = .int .i64 x9_1 ∧ Aside0 (keymap_coded.l0 kq a0 x5_1 x9_1 = some (r1, r2, r3)) ∧ Aside0 (kq ≤ k) ∧ Drawn0 w w')
  case atStart => exact ⟨(0), (0), (by first | rfl | (simp; done) | (simp [*]; done)), (by first | rfl | (simp; done) | (simp [*]; done)), H', ⟨Nat.le_refl _⟩, by repeat (first | exact Drawn0.refl _ | apply Drawn0.step)⟩
  case round =>
    clear H'
    obtain ⟨x5_1, x9_1, rfl, rfl, HA, HK1, ⟨m1, rfl⟩⟩ := hrel
    cases gk with
    | zero => exact absurd HA.out (by simp [keymap_coded.l0])
    | succ k1 =>
      have H := HA.out
      clear HA
      simp only [keymap_coded.l0] at H
      by_cases c2 : x9_1 < 2
      · rw [if_pos c2] at H
        have c2b0 : decide (x9_1 < 2) = true := decide_eq_true c2
        clear c2
        by_cases c3 : x9_1 ≥ (a0.size : Int)
        · rw [if_pos c3] at H
          have c3b0 : decide ((a0.size : Int) ≤ x9_1) = true := decide_eq_true c3
          clear c3
          simp only [Option.some.injEq, Prod.mk.injEq] at H
          obtain ⟨rfl, rfl, rfl⟩ := H
          go_wp2
          go_ret3
          exact ⟨by first | rfl | (simp; done) | (simp [*]; done), by repeat (first | exact Drawn0.refl _ | apply Drawn0.step)⟩
        · rw [if_neg c3] at H
          have c3b0 : decide ((a0.size : Int) ≤ x9_1) = false := decide_eq_false c3
          clear c3
          by_cases c4 : 0 ≤ x9_1
          · rw [if_pos c4] at H
            have c4b0 : decide (0 ≤ x9_1) = true := decide_eq_true c4
            clear c4
            by_cases c5 : x9_1 < (a0.size : Int)
            · rw [if_pos c5] at H
              have c5b0 : decide (x9_1 < (a0.size : Int)) = true := decide_eq_true c5
              clear c5
              replace H := Option.bind_eq_some_iff.mp H
              obtain ⟨⟨t101, t102⟩, A70, H⟩ := H
              replace H : (if t102 = true then (keymap_coded.l0 k1 a0 (wrap64 ((wrap64 (16 * x5_1)) + t101)) (wrap64 (x9_1 + 1))) else (some (0, 0, 6))) = some (r1, r2, r3) := H
              have A7 := Aside0.mk A70
              clear A70
              by_cases c8 : t102 = true
              · subst c8
                have H1 : (keymap_coded.l0 k1 a0 (wrap64 ((wrap64 (16 * x5_1)) + t101)) (wrap64 (x9_1 + 1))) = some (r1, r2, r3) := by rw [if_pos rfl] at H; exact H
                clear H
                have H := H1
                clear H1
                have H' := Aside0.mk H
                clear H
                have p6 : 0 ≤ (x9_1 : Int) := of_decide_eq_true (by first | (with_reducible assumption) | assumption)
                have q6 : x9_1 < (a0.size : Int) := of_decide_eq_true (by first | (with_reducible assumption) | assumption)
                have hx6 := bt_at a0 x9_1
                replace p6 := eq_true p6
                replace q6 := eq_true q6
                go_wp2_with (first | ((with_reducible refine gate_callee (f := 43) rfl ?_); refine goesL_ (some 20) rfl rfl Tryd.func43 (by kernel_rfl) rfl #[.int .u8 (bt a0 x9_1)] rfl (by (try simp only [List.map_toArray, List.map_cons, List.map_nil]); first | done | rfl | (simp only [List.length_drop, List.length_take]; rfl)) ?_; (with_reducible refine (keymap_hex.calls k1 (bt a0 x9_1) t101 true _ A7.out).mono ?_); rintro e w' ⟨rfl, ⟨nd, rfl⟩⟩; refine ⟨_, rfl, ?_⟩))
                go_roundg k1
                case measure => have := HK1.out; omega
                case rel => exact ⟨(wrap64 ((wrap64 (16 * x5_1)) + t101)), (wrap64 (x9_1 + 1)), (by first | rfl | (simp; done) | (simp [*]; done)), (by first | rfl | (simp; done) | (simp [*]; done)), H', ⟨by have := HK1.out; omega⟩, by repeat (first | exact Drawn0.refl _ | apply Drawn0.step)⟩
              · replace c8 := Bool.eq_false_iff.mpr c8
                subst c8
                have H1 : (some (0, 0, 6)) = some (r1, r2, r3) := by rw [if_neg (show ¬ (false = true) by decide)] at H; exact H
                clear H
                have H := H1
                clear H1
                simp only [Option.some.injEq, Prod.mk.injEq] at H
                obtain ⟨rfl, rfl, rfl⟩ := H
                have p6 : 0 ≤ (x9_1 : Int) := of_decide_eq_true (by first | (with_reducible assumption) | assumption)
                have q6 : x9_1 < (a0.size : Int) := of_decide_eq_true (by first | (with_reducible assumption) | assumption)
                have hx6 := bt_at a0 x9_1
                replace p6 := eq_true p6
                replace q6 := eq_true q6
                go_wp2_with (first | ((with_reducible refine gate_callee (f := 43) rfl ?_); refine goesL_ (some 20) rfl rfl Tryd.func43 (by kernel_rfl) rfl #[.int .u8 (bt a0 x9_1)] rfl (by (try simp only [List.map_toArray, List.map_cons, List.map_nil]); first | done | rfl | (simp only [List.length_drop, List.length_take]; rfl)) ?_; (with_reducible refine (keymap_hex.calls k1 (bt a0 x9_1) t101 false _ A7.out).mono ?_); rintro e w' ⟨rfl, ⟨nd, rfl⟩⟩; refine ⟨_, rfl, ?_⟩))
                go_ret3
                exact ⟨by first | rfl | (simp; done) | (simp [*]; done), by repeat (first | exact Drawn0.refl _ | apply Drawn0.step)⟩
            · rw [if_neg c5] at H
              exact absurd H (by simp)
          · rw [if_neg c4] at H
            exact absurd H (by simp)
      · rw [if_neg c2] at H
        have c2b0 : decide (x9_1 < 2) = false := decide_eq_false c2
        clear c2
        simp only [Option.some.injEq, Prod.mk.injEq] at H
        obtain ⟨rfl, rfl, rfl⟩ := H
        go_wp2
        go_ret3
        exact ⟨by first | rfl | (simp; done) | (simp [*]; done), by repeat (first | exact Drawn0.refl _ | apply Drawn0.step)⟩

-- NOT PRINTED: function 25 (keymap_form)

-- NOT PRINTED: function 26 (strings_Builder_Len)

-- NOT PRINTED: function 27 (strings_Builder_String)

-- NOT PRINTED: function 10 (keymap_Parse)

-- NOT PRINTED: function 29 (keymap_show)

-- NOT PRINTED: function 12 (keymap_Show)

/-! ### keymap_Default: function 14 -/
def keymap_Default.f  : Option ((List (S45))) := some (([(⟨(⟨#[1]⟩ : ByteArray), 5⟩ : S45), (⟨(⟨#[2]⟩ : ByteArray), 3⟩ : S45), (⟨(⟨#[3]⟩ : ByteArray), 24⟩ : S45), (⟨(⟨#[4]⟩ : ByteArray), 23⟩ : S45), (⟨(⟨#[5]⟩ : ByteArray), 6⟩ : S45), (⟨(⟨#[6]⟩ : ByteArray), 4⟩ : S45), (⟨(⟨#[8]⟩ : ByteArray), 9⟩ : S45), (⟨(⟨#[9]⟩ : ByteArray), 22⟩ : S45), (⟨(⟨#[10]⟩ : ByteArray), 2⟩ : S45), (⟨(⟨#[11]⟩ : ByteArray), 11⟩ : S45), (⟨(⟨#[13]⟩ : ByteArray), 2⟩ : S45), (⟨(⟨#[14]⟩ : ByteArray), 21⟩ : S45), (⟨(⟨#[16]⟩ : ByteArray), 20⟩ : S45), (⟨(⟨#[20]⟩ : ByteArray), 19⟩ : S45), (⟨(⟨#[21]⟩ : ByteArray), 12⟩ : S45), (⟨(⟨#[23]⟩ : ByteArray), 14⟩ : S45), (⟨(⟨#[24, 18]⟩ : ByteArray), 18⟩ : S45), (⟨(⟨#[24, 21]⟩ : ByteArray), 17⟩ : S45), (⟨(⟨#[24, 24]⟩ : ByteArray), 26⟩ : S45), (⟨(⟨#[25]⟩ : ByteArray), 15⟩ : S45), (⟨(⟨#[27, 32]⟩ : ByteArray), 25⟩ : S45), (⟨(⟨#[27, 91, 65]⟩ : ByteArray), 20⟩ : S45), (⟨(⟨#[27, 91, 66]⟩ : ByteArray), 21⟩ : S45), (⟨(⟨#[27, 91, 67]⟩ : ByteArray), 4⟩ : S45), (⟨(⟨#[27, 91, 68]⟩ : ByteArray), 3⟩ : S45), (⟨(⟨#[27, 98]⟩ : ByteArray), 7⟩ : S45), (⟨(⟨#[27, 100]⟩ : ByteArray), 13⟩ : S45), (⟨(⟨#[27, 102]⟩ : ByteArray), 8⟩ : S45), (⟨(⟨#[27, 108]⟩ : ByteArray), 28⟩ : S45), (⟨(⟨#[27, 117]⟩ : ByteArray), 27⟩ : S45), (⟨(⟨#[27, 121]⟩ : ByteArray), 16⟩ : S45), (⟨(⟨#[31]⟩ : ByteArray), 17⟩ : S45), (⟨(⟨#[127]⟩ : ByteArray), 9⟩ : S45)] : List (S45)))
set_option maxHeartbeats 8000000 in
set_option maxRecDepth 100000 in
theorem keymap_Default.calls  (r : List (S45)) (w : World) (h : keymap_Default.f  = some r) :
    Calls Tryd.prog 14 #[] w fun e w' => ∃ v0_ : Value, e = .returned (v0_) ∧ Kd.R k45 45 w' w.heap.size (fun _ => True) v0_ r ∧ Below w.heap.size w w' := by
  have hu45 := Tryd.underlying45
  have HB := Aside0.mk (Below.refl w.heap.size w)
  have H : (some (([(⟨(⟨#[1]⟩ : ByteArray), 5⟩ : S45), (⟨(⟨#[2]⟩ : ByteArray), 3⟩ : S45), (⟨(⟨#[3]⟩ : ByteArray), 24⟩ : S45), (⟨(⟨#[4]⟩ : ByteArray), 23⟩ : S45), (⟨(⟨#[5]⟩ : ByteArray), 6⟩ : S45), (⟨(⟨#[6]⟩ : ByteArray), 4⟩ : S45), (⟨(⟨#[8]⟩ : ByteArray), 9⟩ : S45), (⟨(⟨#[9]⟩ : ByteArray), 22⟩ : S45), (⟨(⟨#[10]⟩ : ByteArray), 2⟩ : S45), (⟨(⟨#[11]⟩ : ByteArray), 11⟩ : S45), (⟨(⟨#[13]⟩ : ByteArray), 2⟩ : S45), (⟨(⟨#[14]⟩ : ByteArray), 21⟩ : S45), (⟨(⟨#[16]⟩ : ByteArray), 20⟩ : S45), (⟨(⟨#[20]⟩ : ByteArray), 19⟩ : S45), (⟨(⟨#[21]⟩ : ByteArray), 12⟩ : S45), (⟨(⟨#[23]⟩ : ByteArray), 14⟩ : S45), (⟨(⟨#[24, 18]⟩ : ByteArray), 18⟩ : S45), (⟨(⟨#[24, 21]⟩ : ByteArray), 17⟩ : S45), (⟨(⟨#[24, 24]⟩ : ByteArray), 26⟩ : S45), (⟨(⟨#[25]⟩ : ByteArray), 15⟩ : S45), (⟨(⟨#[27, 32]⟩ : ByteArray), 25⟩ : S45), (⟨(⟨#[27, 91, 65]⟩ : ByteArray), 20⟩ : S45), (⟨(⟨#[27, 91, 66]⟩ : ByteArray), 21⟩ : S45), (⟨(⟨#[27, 91, 67]⟩ : ByteArray), 4⟩ : S45), (⟨(⟨#[27, 91, 68]⟩ : ByteArray), 3⟩ : S45), (⟨(⟨#[27, 98]⟩ : ByteArray), 7⟩ : S45), (⟨(⟨#[27, 100]⟩ : ByteArray), 13⟩ : S45), (⟨(⟨#[27, 102]⟩ : ByteArray), 8⟩ : S45), (⟨(⟨#[27, 108]⟩ : ByteArray), 28⟩ : S45), (⟨(⟨#[27, 117]⟩ : ByteArray), 27⟩ : S45), (⟨(⟨#[27, 121]⟩ : ByteArray), 16⟩ : S45), (⟨(⟨#[31]⟩ : ByteArray), 17⟩ : S45), (⟨(⟨#[127]⟩ : ByteArray), 9⟩ : S45)] : List (S45)))) = some r := h
  clear h
  obtain ⟨y103, hy103⟩ : ∃ y_ : List (S45), y_ = (([(⟨(⟨#[1]⟩ : ByteArray), 5⟩ : S45), (⟨(⟨#[2]⟩ : ByteArray), 3⟩ : S45), (⟨(⟨#[3]⟩ : ByteArray), 24⟩ : S45), (⟨(⟨#[4]⟩ : ByteArray), 23⟩ : S45), (⟨(⟨#[5]⟩ : ByteArray), 6⟩ : S45), (⟨(⟨#[6]⟩ : ByteArray), 4⟩ : S45), (⟨(⟨#[8]⟩ : ByteArray), 9⟩ : S45), (⟨(⟨#[9]⟩ : ByteArray), 22⟩ : S45), (⟨(⟨#[10]⟩ : ByteArray), 2⟩ : S45), (⟨(⟨#[11]⟩ : ByteArray), 11⟩ : S45), (⟨(⟨#[13]⟩ : ByteArray), 2⟩ : S45), (⟨(⟨#[14]⟩ : ByteArray), 21⟩ : S45), (⟨(⟨#[16]⟩ : ByteArray), 20⟩ : S45), (⟨(⟨#[20]⟩ : ByteArray), 19⟩ : S45), (⟨(⟨#[21]⟩ : ByteArray), 12⟩ : S45), (⟨(⟨#[23]⟩ : ByteArray), 14⟩ : S45), (⟨(⟨#[24, 18]⟩ : ByteArray), 18⟩ : S45), (⟨(⟨#[24, 21]⟩ : ByteArray), 17⟩ : S45), (⟨(⟨#[24, 24]⟩ : ByteArray), 26⟩ : S45), (⟨(⟨#[25]⟩ : ByteArray), 15⟩ : S45), (⟨(⟨#[27, 32]⟩ : ByteArray), 25⟩ : S45), (⟨(⟨#[27, 91, 65]⟩ : ByteArray), 20⟩ : S45), (⟨(⟨#[27, 91, 66]⟩ : ByteArray), 21⟩ : S45), (⟨(⟨#[27, 91, 67]⟩ : ByteArray), 4⟩ : S45), (⟨(⟨#[27, 91, 68]⟩ : ByteArray), 3⟩ : S45), (⟨(⟨#[27, 98]⟩ : ByteArray), 7⟩ : S45), (⟨(⟨#[27, 100]⟩ : ByteArray), 13⟩ : S45), (⟨(⟨#[27, 102]⟩ : ByteArray), 8⟩ : S45), (⟨(⟨#[27, 108]⟩ : ByteArray), 28⟩ : S45), (⟨(⟨#[27, 117]⟩ : ByteArray), 27⟩ : S45), (⟨(⟨#[27, 121]⟩ : ByteArray), 16⟩ : S45), (⟨(⟨#[31]⟩ : ByteArray), 17⟩ : S45), (⟨(⟨#[127]⟩ : ByteArray), 9⟩ : S45)] : List (S45))) := ⟨_, rfl⟩
  replace H : (some y103) = some r := by first | (rw [hy103]; with_reducible exact H) | (have H2_ := (Option.bind_some _ _).symm.trans H; rw [hy103]; with_reducible exact H2_) | (have H2_ := (Option.bind_some _ _).symm.trans H; with_reducible exact H2_) | with_reducible exact H | (rw [hy103]; exact H) | exact H
  have Ny103 := Aside0.mk hy103
  clear hy103
  obtain rfl := Option.some.inj H
  go_enter Tryd.func14, Tryd.ntmps14
  go_wp2_with (first | ((with_reducible refine gate_dst (N := 34) rfl ?_); refine Kd.R_lit k45 _ 45 ?hg (N := 34) ?hd (xs := ([(⟨(⟨#[1]⟩ : ByteArray), 5⟩ : S45), (⟨(⟨#[2]⟩ : ByteArray), 3⟩ : S45), (⟨(⟨#[3]⟩ : ByteArray), 24⟩ : S45), (⟨(⟨#[4]⟩ : ByteArray), 23⟩ : S45), (⟨(⟨#[5]⟩ : ByteArray), 6⟩ : S45), (⟨(⟨#[6]⟩ : ByteArray), 4⟩ : S45), (⟨(⟨#[8]⟩ : ByteArray), 9⟩ : S45), (⟨(⟨#[9]⟩ : ByteArray), 22⟩ : S45), (⟨(⟨#[10]⟩ : ByteArray), 2⟩ : S45), (⟨(⟨#[11]⟩ : ByteArray), 11⟩ : S45), (⟨(⟨#[13]⟩ : ByteArray), 2⟩ : S45), (⟨(⟨#[14]⟩ : ByteArray), 21⟩ : S45), (⟨(⟨#[16]⟩ : ByteArray), 20⟩ : S45), (⟨(⟨#[20]⟩ : ByteArray), 19⟩ : S45), (⟨(⟨#[21]⟩ : ByteArray), 12⟩ : S45), (⟨(⟨#[23]⟩ : ByteArray), 14⟩ : S45), (⟨(⟨#[24, 18]⟩ : ByteArray), 18⟩ : S45), (⟨(⟨#[24, 21]⟩ : ByteArray), 17⟩ : S45), (⟨(⟨#[24, 24]⟩ : ByteArray), 26⟩ : S45), (⟨(⟨#[25]⟩ : ByteArray), 15⟩ : S45), (⟨(⟨#[27, 32]⟩ : ByteArray), 25⟩ : S45), (⟨(⟨#[27, 91, 65]⟩ : ByteArray), 20⟩ : S45), (⟨(⟨#[27, 91, 66]⟩ : ByteArray), 21⟩ : S45), (⟨(⟨#[27, 91, 67]⟩ : ByteArray), 4⟩ : S45), (⟨(⟨#[27, 91, 68]⟩ : ByteArray), 3⟩ : S45), (⟨(⟨#[27, 98]⟩ : ByteArray), 7⟩ : S45), (⟨(⟨#[27, 100]⟩ : ByteArray), 13⟩ : S45), (⟨(⟨#[27, 102]⟩ : ByteArray), 8⟩ : S45), (⟨(⟨#[27, 108]⟩ : ByteArray), 28⟩ : S45), (⟨(⟨#[27, 117]⟩ : ByteArray), 27⟩ : S45), (⟨(⟨#[27, 121]⟩ : ByteArray), 16⟩ : S45), (⟨(⟨#[31]⟩ : ByteArray), 17⟩ : S45), (⟨(⟨#[127]⟩ : ByteArray), 9⟩ : S45)] : List (S45))) (inner := [.string (⟨#[1]⟩ : ByteArray), .int .i64 5, .string (⟨#[2]⟩ : ByteArray), .int .i64 3, .string (⟨#[3]⟩ : ByteArray), .int .i64 24, .string (⟨#[4]⟩ : ByteArray), .int .i64 23, .string (⟨#[5]⟩ : ByteArray), .int .i64 6, .string (⟨#[6]⟩ : ByteArray), .int .i64 4, .string (⟨#[8]⟩ : ByteArray), .int .i64 9, .string (⟨#[9]⟩ : ByteArray), .int .i64 22, .string (⟨#[10]⟩ : ByteArray), .int .i64 2, .string (⟨#[11]⟩ : ByteArray), .int .i64 11, .string (⟨#[13]⟩ : ByteArray), .int .i64 2, .string (⟨#[14]⟩ : ByteArray), .int .i64 21, .string (⟨#[16]⟩ : ByteArray), .int .i64 20, .string (⟨#[20]⟩ : ByteArray), .int .i64 19, .string (⟨#[21]⟩ : ByteArray), .int .i64 12, .string (⟨#[23]⟩ : ByteArray), .int .i64 14, .string (⟨#[24, 18]⟩ : ByteArray), .int .i64 18, .string (⟨#[24, 21]⟩ : ByteArray), .int .i64 17, .string (⟨#[24, 24]⟩ : ByteArray), .int .i64 26, .string (⟨#[25]⟩ : ByteArray), .int .i64 15, .string (⟨#[27, 32]⟩ : ByteArray), .int .i64 25, .string (⟨#[27, 91, 65]⟩ : ByteArray), .int .i64 20, .string (⟨#[27, 91, 66]⟩ : ByteArray), .int .i64 21, .string (⟨#[27, 91, 67]⟩ : ByteArray), .int .i64 4, .string (⟨#[27, 91, 68]⟩ : ByteArray), .int .i64 3, .string (⟨#[27, 98]⟩ : ByteArray), .int .i64 7, .string (⟨#[27, 100]⟩ : ByteArray), .int .i64 13, .string (⟨#[27, 102]⟩ : ByteArray), .int .i64 8, .string (⟨#[27, 108]⟩ : ByteArray), .int .i64 28, .string (⟨#[27, 117]⟩ : ByteArray), .int .i64 27, .string (⟨#[27, 121]⟩ : ByteArray), .int .i64 16, .string (⟨#[31]⟩ : ByteArray), .int .i64 17, .string (⟨#[127]⟩ : ByteArray), .int .i64 9]) (ok := fun _ => True) (okp := fun _ => True) ?hr ?hp (fun _ hk => hk) trivial (Below.refl _ _) (Nat.le_refl _) (by simp) ?_; (case hd => rfl); (case hg => rfl); (case hr => first | (go_simp; done) | (go_simp; rfl)); (case hp => exact (Reps.c2 (show Kd.M k45 _ _ _ (⟨(⟨#[1]⟩ : ByteArray), 5⟩ : S45) [.string (⟨#[1]⟩ : ByteArray), .int .i64 5] from (k45_mkM _ _ _ (⟨(⟨#[1]⟩ : ByteArray), 5⟩ : S45) )) (Reps.c2 (show Kd.M k45 _ _ _ (⟨(⟨#[2]⟩ : ByteArray), 3⟩ : S45) [.string (⟨#[2]⟩ : ByteArray), .int .i64 3] from (k45_mkM _ _ _ (⟨(⟨#[2]⟩ : ByteArray), 3⟩ : S45) )) (Reps.c2 (show Kd.M k45 _ _ _ (⟨(⟨#[3]⟩ : ByteArray), 24⟩ : S45) [.string (⟨#[3]⟩ : ByteArray), .int .i64 24] from (k45_mkM _ _ _ (⟨(⟨#[3]⟩ : ByteArray), 24⟩ : S45) )) (Reps.c2 (show Kd.M k45 _ _ _ (⟨(⟨#[4]⟩ : ByteArray), 23⟩ : S45) [.string (⟨#[4]⟩ : ByteArray), .int .i64 23] from (k45_mkM _ _ _ (⟨(⟨#[4]⟩ : ByteArray), 23⟩ : S45) )) (Reps.c2 (show Kd.M k45 _ _ _ (⟨(⟨#[5]⟩ : ByteArray), 6⟩ : S45) [.string (⟨#[5]⟩ : ByteArray), .int .i64 6] from (k45_mkM _ _ _ (⟨(⟨#[5]⟩ : ByteArray), 6⟩ : S45) )) (Reps.c2 (show Kd.M k45 _ _ _ (⟨(⟨#[6]⟩ : ByteArray), 4⟩ : S45) [.string (⟨#[6]⟩ : ByteArray), .int .i64 4] from (k45_mkM _ _ _ (⟨(⟨#[6]⟩ : ByteArray), 4⟩ : S45) )) (Reps.c2 (show Kd.M k45 _ _ _ (⟨(⟨#[8]⟩ : ByteArray), 9⟩ : S45) [.string (⟨#[8]⟩ : ByteArray), .int .i64 9] from (k45_mkM _ _ _ (⟨(⟨#[8]⟩ : ByteArray), 9⟩ : S45) )) (Reps.c2 (show Kd.M k45 _ _ _ (⟨(⟨#[9]⟩ : ByteArray), 22⟩ : S45) [.string (⟨#[9]⟩ : ByteArray), .int .i64 22] from (k45_mkM _ _ _ (⟨(⟨#[9]⟩ : ByteArray), 22⟩ : S45) )) (Reps.c2 (show Kd.M k45 _ _ _ (⟨(⟨#[10]⟩ : ByteArray), 2⟩ : S45) [.string (⟨#[10]⟩ : ByteArray), .int .i64 2] from (k45_mkM _ _ _ (⟨(⟨#[10]⟩ : ByteArray), 2⟩ : S45) )) (Reps.c2 (show Kd.M k45 _ _ _ (⟨(⟨#[11]⟩ : ByteArray), 11⟩ : S45) [.string (⟨#[11]⟩ : ByteArray), .int .i64 11] from (k45_mkM _ _ _ (⟨(⟨#[11]⟩ : ByteArray), 11⟩ : S45) )) (Reps.c2 (show Kd.M k45 _ _ _ (⟨(⟨#[13]⟩ : ByteArray), 2⟩ : S45) [.string (⟨#[13]⟩ : ByteArray), .int .i64 2] from (k45_mkM _ _ _ (⟨(⟨#[13]⟩ : ByteArray), 2⟩ : S45) )) (Reps.c2 (show Kd.M k45 _ _ _ (⟨(⟨#[14]⟩ : ByteArray), 21⟩ : S45) [.string (⟨#[14]⟩ : ByteArray), .int .i64 21] from (k45_mkM _ _ _ (⟨(⟨#[14]⟩ : ByteArray), 21⟩ : S45) )) (Reps.c2 (show Kd.M k45 _ _ _ (⟨(⟨#[16]⟩ : ByteArray), 20⟩ : S45) [.string (⟨#[16]⟩ : ByteArray), .int .i64 20] from (k45_mkM _ _ _ (⟨(⟨#[16]⟩ : ByteArray), 20⟩ : S45) )) (Reps.c2 (show Kd.M k45 _ _ _ (⟨(⟨#[20]⟩ : ByteArray), 19⟩ : S45) [.string (⟨#[20]⟩ : ByteArray), .int .i64 19] from (k45_mkM _ _ _ (⟨(⟨#[20]⟩ : ByteArray), 19⟩ : S45) )) (Reps.c2 (show Kd.M k45 _ _ _ (⟨(⟨#[21]⟩ : ByteArray), 12⟩ : S45) [.string (⟨#[21]⟩ : ByteArray), .int .i64 12] from (k45_mkM _ _ _ (⟨(⟨#[21]⟩ : ByteArray), 12⟩ : S45) )) (Reps.c2 (show Kd.M k45 _ _ _ (⟨(⟨#[23]⟩ : ByteArray), 14⟩ : S45) [.string (⟨#[23]⟩ : ByteArray), .int .i64 14] from (k45_mkM _ _ _ (⟨(⟨#[23]⟩ : ByteArray), 14⟩ : S45) )) (Reps.c2 (show Kd.M k45 _ _ _ (⟨(⟨#[24, 18]⟩ : ByteArray), 18⟩ : S45) [.string (⟨#[24, 18]⟩ : ByteArray), .int .i64 18] from (k45_mkM _ _ _ (⟨(⟨#[24, 18]⟩ : ByteArray), 18⟩ : S45) )) (Reps.c2 (show Kd.M k45 _ _ _ (⟨(⟨#[24, 21]⟩ : ByteArray), 17⟩ : S45) [.string (⟨#[24, 21]⟩ : ByteArray), .int .i64 17] from (k45_mkM _ _ _ (⟨(⟨#[24, 21]⟩ : ByteArray), 17⟩ : S45) )) (Reps.c2 (show Kd.M k45 _ _ _ (⟨(⟨#[24, 24]⟩ : ByteArray), 26⟩ : S45) [.string (⟨#[24, 24]⟩ : ByteArray), .int .i64 26] from (k45_mkM _ _ _ (⟨(⟨#[24, 24]⟩ : ByteArray), 26⟩ : S45) )) (Reps.c2 (show Kd.M k45 _ _ _ (⟨(⟨#[25]⟩ : ByteArray), 15⟩ : S45) [.string (⟨#[25]⟩ : ByteArray), .int .i64 15] from (k45_mkM _ _ _ (⟨(⟨#[25]⟩ : ByteArray), 15⟩ : S45) )) (Reps.c2 (show Kd.M k45 _ _ _ (⟨(⟨#[27, 32]⟩ : ByteArray), 25⟩ : S45) [.string (⟨#[27, 32]⟩ : ByteArray), .int .i64 25] from (k45_mkM _ _ _ (⟨(⟨#[27, 32]⟩ : ByteArray), 25⟩ : S45) )) (Reps.c2 (show Kd.M k45 _ _ _ (⟨(⟨#[27, 91, 65]⟩ : ByteArray), 20⟩ : S45) [.string (⟨#[27, 91, 65]⟩ : ByteArray), .int .i64 20] from (k45_mkM _ _ _ (⟨(⟨#[27, 91, 65]⟩ : ByteArray), 20⟩ : S45) )) (Reps.c2 (show Kd.M k45 _ _ _ (⟨(⟨#[27, 91, 66]⟩ : ByteArray), 21⟩ : S45) [.string (⟨#[27, 91, 66]⟩ : ByteArray), .int .i64 21] from (k45_mkM _ _ _ (⟨(⟨#[27, 91, 66]⟩ : ByteArray), 21⟩ : S45) )) (Reps.c2 (show Kd.M k45 _ _ _ (⟨(⟨#[27, 91, 67]⟩ : ByteArray), 4⟩ : S45) [.string (⟨#[27, 91, 67]⟩ : ByteArray), .int .i64 4] from (k45_mkM _ _ _ (⟨(⟨#[27, 91, 67]⟩ : ByteArray), 4⟩ : S45) )) (Reps.c2 (show Kd.M k45 _ _ _ (⟨(⟨#[27, 91, 68]⟩ : ByteArray), 3⟩ : S45) [.string (⟨#[27, 91, 68]⟩ : ByteArray), .int .i64 3] from (k45_mkM _ _ _ (⟨(⟨#[27, 91, 68]⟩ : ByteArray), 3⟩ : S45) )) (Reps.c2 (show Kd.M k45 _ _ _ (⟨(⟨#[27, 98]⟩ : ByteArray), 7⟩ : S45) [.string (⟨#[27, 98]⟩ : ByteArray), .int .i64 7] from (k45_mkM _ _ _ (⟨(⟨#[27, 98]⟩ : ByteArray), 7⟩ : S45) )) (Reps.c2 (show Kd.M k45 _ _ _ (⟨(⟨#[27, 100]⟩ : ByteArray), 13⟩ : S45) [.string (⟨#[27, 100]⟩ : ByteArray), .int .i64 13] from (k45_mkM _ _ _ (⟨(⟨#[27, 100]⟩ : ByteArray), 13⟩ : S45) )) (Reps.c2 (show Kd.M k45 _ _ _ (⟨(⟨#[27, 102]⟩ : ByteArray), 8⟩ : S45) [.string (⟨#[27, 102]⟩ : ByteArray), .int .i64 8] from (k45_mkM _ _ _ (⟨(⟨#[27, 102]⟩ : ByteArray), 8⟩ : S45) )) (Reps.c2 (show Kd.M k45 _ _ _ (⟨(⟨#[27, 108]⟩ : ByteArray), 28⟩ : S45) [.string (⟨#[27, 108]⟩ : ByteArray), .int .i64 28] from (k45_mkM _ _ _ (⟨(⟨#[27, 108]⟩ : ByteArray), 28⟩ : S45) )) (Reps.c2 (show Kd.M k45 _ _ _ (⟨(⟨#[27, 117]⟩ : ByteArray), 27⟩ : S45) [.string (⟨#[27, 117]⟩ : ByteArray), .int .i64 27] from (k45_mkM _ _ _ (⟨(⟨#[27, 117]⟩ : ByteArray), 27⟩ : S45) )) (Reps.c2 (show Kd.M k45 _ _ _ (⟨(⟨#[27, 121]⟩ : ByteArray), 16⟩ : S45) [.string (⟨#[27, 121]⟩ : ByteArray), .int .i64 16] from (k45_mkM _ _ _ (⟨(⟨#[27, 121]⟩ : ByteArray), 16⟩ : S45) )) (Reps.c2 (show Kd.M k45 _ _ _ (⟨(⟨#[31]⟩ : ByteArray), 17⟩ : S45) [.string (⟨#[31]⟩ : ByteArray), .int .i64 17] from (k45_mkM _ _ _ (⟨(⟨#[31]⟩ : ByteArray), 17⟩ : S45) )) (Reps.c2 (show Kd.M k45 _ _ _ (⟨(⟨#[127]⟩ : ByteArray), 9⟩ : S45) [.string (⟨#[127]⟩ : ByteArray), .int .i64 9] from (k45_mkM _ _ _ (⟨(⟨#[127]⟩ : ByteArray), 9⟩ : S45) )) (Reps.none _ _))))))))))))))))))))))))))))))))))); intro v104 w1 ho2 hb hg_ hnew_; clear hg_ hnew_; (first | rw [← Ny103.out] at ho2 | (simp only [Int.reduceToNat] at ho2; rw [← Ny103.out] at ho2)); have n0_ := Aside0.mk (Kd.R_lower ho2 (below_size (by repeat (first | (with_reducible first | exact HB.out | apply below_alloc | apply pw_below_drewN | apply below_drew1) | exact HB.out)))); have n1_ := Aside0.mk (below_step (by repeat (first | (with_reducible first | exact HB.out | apply below_alloc | apply pw_below_drewN | apply below_drew1) | exact HB.out)) hb); clear HB; have HO105 := n0_; have HB := n1_; clear n0_ n1_; clear hb ho2))
  go_ret
  exact ⟨_, by first | rfl | (simp [errW_none, errW_some] <;> rfl) | (simp [*, errW_none, errW_some] <;> rfl), by (with_reducible repeat (first | apply Kd.R_alloc | apply Kd.R_drewN | apply Kd.R_drew)); exact HO105.out, by repeat (first | (with_reducible first | exact HB.out | apply below_alloc | apply pw_below_drewN | apply below_drew1) | exact HB.out)⟩

/-! ### keymap_action: function 31 -/
def keymap_action.f (a0 : Int) : Option (Bool) := if a0 ≥ 1 then (some (decide (a0 ≤ 28))) else (some false)
set_option maxHeartbeats 8000000 in
set_option maxRecDepth 100000 in
theorem keymap_action.calls (a0 : Int) (r : Bool) (w : World) (h : keymap_action.f a0 = some r) :
    Calls Tryd.prog 31 #[.int .i64 a0] w fun e w' => e = .returned (.bool r) ∧ Drawn0 w w' := by
  have H : (if a0 ≥ 1 then (some (decide (a0 ≤ 28))) else (some false)) = some r := h
  clear h
  by_cases c2 : a0 ≥ 1
  · rw [if_pos c2] at H
    have c2b0 : decide (1 ≤ a0) = true := decide_eq_true c2
    clear c2
    obtain rfl := Option.some.inj H
    go_enter Tryd.func31, Tryd.ntmps31
    go_wp2
    go_ret
    exact ⟨by first | rfl | (simp; done) | (simp [*]; done), by repeat (first | exact Drawn0.refl _ | apply Drawn0.step)⟩
  · rw [if_neg c2] at H
    have c2b0 : decide (1 ≤ a0) = false := decide_eq_false c2
    clear c2
    obtain rfl := Option.some.inj H
    go_enter Tryd.func31, Tryd.ntmps31
    go_wp2
    go_ret
    exact ⟨by first | rfl | (simp; done) | (simp [*]; done), by repeat (first | exact Drawn0.refl _ | apply Drawn0.step)⟩

/-! ### stringslite_HasPrefix: function 41 -/
def stringslite_HasPrefix.f (a0 : ByteArray) (a1 : ByteArray) : Option (Bool) := if (a0.size : Int) ≥ (a1.size : Int) then (if 0 ≤ (a1.size : Int) then (if (a1.size : Int) ≤ (a0.size : Int) then (some ((a0.extract 0 ((a1.size : Int) : Int).toNat).toList == a1.toList)) else (none)) else (none)) else (some false)
set_option maxHeartbeats 8000000 in
set_option maxRecDepth 100000 in
theorem stringslite_HasPrefix.calls (a0 : ByteArray) (a1 : ByteArray) (r : Bool) (w : World) (h : stringslite_HasPrefix.f a0 a1 = some r) :
    Calls Tryd.prog 41 #[.string a0, .string a1] w fun e w' => e = .returned (.bool r) ∧ Drawn0 w w' := by
  have H : (if (a0.size : Int) ≥ (a1.size : Int) then (if 0 ≤ (a1.size : Int) then (if (a1.size : Int) ≤ (a0.size : Int) then (some ((a0.extract 0 ((a1.size : Int) : Int).toNat).toList == a1.toList)) else (none)) else (none)) else (some false)) = some r := h
  clear h
  by_cases c3 : (a0.size : Int) ≥ (a1.size : Int)
  · rw [if_pos c3] at H
    have c3b0 : decide ((a1.size : Int) ≤ (a0.size : Int)) = true := decide_eq_true c3
    have c3b1 : decide (a1.size ≤ a0.size) = true := decide_eq_true (Int.ofNat_le.mp c3)
    clear c3
    by_cases c4 : 0 ≤ (a1.size : Int)
    · rw [if_pos c4] at H
      have c4b0 := eq_true c4
      have c4b1 : decide (0 ≤ (a1.size : Int)) = true := decide_eq_true c4
      clear c4
      by_cases c5 : (a1.size : Int) ≤ (a0.size : Int)
      · rw [if_pos c5] at H
        have c5b0 := eq_true c5
        have c5b1 : decide ((a1.size : Int) ≤ (a0.size : Int)) = true := decide_eq_true c5
        clear c5
        obtain rfl := Option.some.inj H
        go_enter Tryd.func41, Tryd.ntmps41
        go_wp2
        go_ret
        exact ⟨by first | rfl | (simp; done) | (simp [*]; done), by repeat (first | exact Drawn0.refl _ | apply Drawn0.step)⟩
      · rw [if_neg c5] at H
        exact absurd H (by simp)
    · rw [if_neg c4] at H
      exact absurd H (by simp)
  · rw [if_neg c3] at H
    have c3b0 : decide ((a1.size : Int) ≤ (a0.size : Int)) = false := decide_eq_false c3
    have c3b1 : decide (a1.size ≤ a0.size) = false := decide_eq_false (fun h => c3 (Int.ofNat_le.mpr h))
    clear c3
    obtain rfl := Option.some.inj H
    go_enter Tryd.func41, Tryd.ntmps41
    go_wp2
    go_ret
    exact ⟨by first | rfl | (simp; done) | (simp [*]; done), by repeat (first | exact Drawn0.refl _ | apply Drawn0.step)⟩

/-! ### strings_HasPrefix: function 32 -/
def strings_HasPrefix.f (a0 : ByteArray) (a1 : ByteArray) : Option (Bool) := (stringslite_HasPrefix.f a0 a1).bind fun t106 => (some t106)
set_option maxHeartbeats 8000000 in
set_option maxRecDepth 100000 in
theorem strings_HasPrefix.calls (a0 : ByteArray) (a1 : ByteArray) (r : Bool) (w : World) (h : strings_HasPrefix.f a0 a1 = some r) :
    Calls Tryd.prog 32 #[.string a0, .string a1] w fun e w' => e = .returned (.bool r) ∧ Drawn0 w w' := by
  have H : ((stringslite_HasPrefix.f a0 a1).bind fun t106 => (some t106)) = some r := h
  clear h
  replace H := Option.bind_eq_some_iff.mp H
  obtain ⟨t106, A30, H⟩ := H
  replace H : (some t106) = some r := H
  have A3 := Aside0.mk A30
  clear A30
  obtain rfl := Option.some.inj H
  go_enter Tryd.func32, Tryd.ntmps32
  go_wp2_with (first | ((with_reducible refine gate_callee (f := 41) rfl ?_); refine goesL_ (some 7) rfl rfl Tryd.func41 (by kernel_rfl) rfl #[.string a0, .string a1] rfl (by (try simp only [List.map_toArray, List.map_cons, List.map_nil]); first | done | rfl | (simp only [List.length_drop, List.length_take]; rfl)) ?_; (with_reducible refine (stringslite_HasPrefix.calls a0 a1 t106 _ A3.out).mono ?_); rintro e w' ⟨rfl, ⟨nd, rfl⟩⟩; refine ⟨_, rfl, ?_⟩))
  go_ret
  exact ⟨by first | rfl | (simp; done) | (simp [*]; done), by repeat (first | exact Drawn0.refl _ | apply Drawn0.step)⟩

end Go.Proofs.YtklcndfnboieoaaDoor.PKeymapParses
