-- Written by a program of this session (mkprinter.py over the kit's printer) out of the translation. Lean checks it.
import Derived.Test.YtklcndfnboieoaaDoorRBPx0
namespace Go.Proofs.YtklcndfnboieoaaDoor.P
open Go.RowKit Go.Proofs.YtklcndfnboieoaaDoorW.PrintWords Go.Proofs.YtklcndfnboieoaaDoorW.PrintLast Go.Proofs.YtklcndfnboieoaaDoorW.PrintMore
attribute [local go_sem] max2_int min2_int max_two min_two max_three min_three max_four min_four   -- for this text's walks alone
open Go.Proofs.YtklcndfnboieoaaDoor.H
set_option linter.unusedVariables false
set_option linter.unusedSimpArgs false

-- NOT PRINTED: function 42 (abi_NoEscape)

-- NOT PRINTED: function 35 (strings_Builder_copyCheck)

-- NOT PRINTED: function 24 (strings_Builder_WriteByte)

-- NOT PRINTED: function 26 (strings_Builder_Len)

-- NOT PRINTED: function 27 (strings_Builder_String)

def keymap_Show.l0 : Nat → ByteArray → ByteArray → Int → Int → Option (ByteArray)
  | 0, _, _, _, _ => none
  | k + 1, x0, x3, x6, x7 => if x7 < x6 then (if 0 ≤ x7 then (if x7 < (x0.size : Int) then ((keymap_show.f (bt x0 x7)).bind fun t103 => (if x3.size + t103.size ≤ 9223372036854775807 then (keymap_Show.l0 k x0 (x3 ++ t103) x6 (wrap64 (x7 + 1))) else (none))) else (none)) else (none)) else (some x3)
def keymap_Show.f (k : Nat) (a0 : ByteArray) : Option (ByteArray) := keymap_Show.l0 k a0 (⟨#[]⟩ : ByteArray) (a0.size : Int) 0
theorem keymap_Show.mono_l : ∀ k, (∀ y0 y1 y2 y3, LeO (keymap_Show.l0 k y0 y1 y2 y3) (keymap_Show.l0 (k + 1) y0 y1 y2 y3))
  | 0 => fun _ _ _ _ r h => by simp [keymap_Show.l0] at h
  | k + 1 => by
    have ih0 := keymap_Show.mono_l k
    · intro y0 y1 y2 y3
      unfold keymap_Show.l0
      repeat' first
      | (with_reducible exact ih0 _ _ _ _)
      | (with_reducible exact LeO.refl _)
      | (with_reducible exact LeO.none _)
      | (with_reducible refine LeO.ite ?_ ?_)
      | (with_reducible refine LeO.bind ?_ (fun _ => ?_))
      | exact ih0 _ _ _ _
      | exact LeO.none _
      | refine LeO.ite ?_ ?_
      | refine LeO.bind ?_ (fun _ => ?_)
theorem keymap_Show.mono : ∀ a0 k, LeO (keymap_Show.f k a0) (keymap_Show.f (k + 1) a0) := by
  intro a0 k
  have ih0 := keymap_Show.mono_l k
  unfold keymap_Show.f
  repeat' first
      | (with_reducible exact ih0 _ _ _ _)
      | (with_reducible exact LeO.refl _)
      | (with_reducible exact LeO.none _)
      | (with_reducible refine LeO.ite ?_ ?_)
      | (with_reducible refine LeO.bind ?_ (fun _ => ?_))
      | exact ih0 _ _ _ _
      | exact LeO.none _
      | refine LeO.ite ?_ ?_
      | refine LeO.bind ?_ (fun _ => ?_)
set_option maxHeartbeats 8000000 in
set_option maxRecDepth 100000 in
theorem keymap_Show.calls (k : Nat) (a0 : ByteArray) (r : ByteArray) (w : World) (hG : Laid w) (h : keymap_Show.f k a0 = some r) :
    Calls Tryd.prog 12 #[.string a0] w fun e w' => e = .returned (.string r) ∧ Below w.heap.size w w' := by
  have HB := Aside0.mk (Below.refl w.heap.size w)
  have HG := Aside0.mk hG
  clear hG
  have H : (keymap_Show.l0 k a0 (⟨#[]⟩ : ByteArray) (a0.size : Int) 0) = some r := h
  clear h
  have H' := Aside0.mk H
  clear H
  go_enter Tryd.func12, Tryd.ntmps12
  go_wp2
  go_loopg [3, 7] k (fun kq v3 v7 w' => ∃ (x3_1 : ByteArray) (x7_1 : Int), v3 = .string x3_1 ∧ v7 = .int .i64 x7_1 ∧ Aside0 (keymap_Show.l0 kq a0 x3_1 (a0.size : Int) x7_1 = some r) ∧ Aside0 (kq ≤ k) ∧ Aside0 (Below w.heap.size w w'))
  case atStart => exact ⟨((⟨#[]⟩ : ByteArray)), (0), (by first | rfl | (simp; done) | (simp [*]; done)), (by first | rfl | (simp; done) | (simp [*]; done)), H', ⟨Nat.le_refl _⟩, ⟨by repeat (first | (with_reducible first | exact HB.out | apply below_alloc | apply pw_below_drewN | apply below_drew1) | exact HB.out)⟩⟩
  case round =>
    clear H'
    try clear c1
    obtain ⟨x3_1, x7_1, rfl, rfl, HA, HK1, HB⟩ := hrel
    cases gk with
    | zero => exact absurd HA.out (by simp [keymap_Show.l0])
    | succ k1 =>
      have H := HA.out
      clear HA
      simp only [keymap_Show.l0] at H
      by_cases c2 : x7_1 < (a0.size : Int)
      · rw [if_pos c2] at H
        have c2b0 : decide (x7_1 < (a0.size : Int)) = true := decide_eq_true c2
        clear c2
        by_cases c3 : 0 ≤ x7_1
        · rw [if_pos c3] at H
          have c3b0 : decide (0 ≤ x7_1) = true := decide_eq_true c3
          clear c3
          by_cases c4 : x7_1 < (a0.size : Int)
          · rw [if_pos c4] at H
            have c4b0 : decide (x7_1 < (a0.size : Int)) = true := decide_eq_true c4
            clear c4
            replace H := Option.bind_eq_some_iff.mp H
            obtain ⟨t103, A60, H⟩ := H
            replace H : (if x3_1.size + t103.size ≤ 9223372036854775807 then (keymap_Show.l0 k1 a0 (x3_1 ++ t103) (a0.size : Int) (wrap64 (x7_1 + 1))) else (none)) = some r := H
            have A6 := Aside0.mk A60
            clear A60
            by_cases c7 : x3_1.size + t103.size ≤ 9223372036854775807
            · rw [if_pos c7] at H
              have c7b0 := eq_true c7
              have c7b1 : decide (x3_1.size + t103.size ≤ 9223372036854775807) = true := decide_eq_true c7
              try have c7b2 : (9223372036854775807 < x3_1.size + t103.size) = False := eq_false (Nat.not_lt.2 c7)
              have H' := Aside0.mk H
              clear H
              have p5 : 0 ≤ (x7_1 : Int) := of_decide_eq_true (by first | (with_reducible assumption) | assumption)
              have q5 : x7_1 < (a0.size : Int) := of_decide_eq_true (by first | (with_reducible assumption) | assumption)
              have hx5 := bt_at a0 x7_1
              replace p5 := eq_true p5
              replace q5 := eq_true q5
              go_wp2_with (first | ((with_reducible refine gate_callee (f := 29) rfl ?_); refine goesL_ (some 14) rfl rfl Tryd.func29 (by kernel_rfl) rfl #[.int .u8 (bt a0 x7_1)] rfl (by (try simp only [List.map_toArray, List.map_cons, List.map_nil]); first | done | rfl | (simp only [List.length_drop, List.length_take]; rfl)) ?_; (with_reducible refine (keymap_show.calls (bt a0 x7_1) t103 _ ?side1 A6.out).mono ?_); (case side1 => exact HG.out.step (by repeat (first | (with_reducible first | exact HB.out | apply below_alloc | apply pw_below_drewN | apply below_drew1) | exact HB.out))); rintro e w8 ⟨rfl, hb⟩; refine ⟨_, rfl, ?_⟩; have n0_ := Aside0.mk (below_step (by repeat (first | (with_reducible first | exact HB.out | apply below_alloc | apply pw_below_drewN | apply below_drew1) | exact HB.out)) hb); clear HB; have HB := n0_; clear n0_; (try clear hb); (try clear hb2); (try clear hk); (try clear hi)))
              go_roundg k1
              case measure => have := HK1.out; omega
              case rel => exact ⟨(x3_1 ++ t103), (wrap64 (x7_1 + 1)), (by first | rfl | (simp; done) | (simp [*]; done)), (by first | rfl | (simp; done) | (simp [*]; done)), H', ⟨by have := HK1.out; omega⟩, ⟨by repeat (first | (with_reducible first | exact HB.out | apply below_alloc | apply pw_below_drewN | apply below_drew1) | exact HB.out)⟩⟩
            · rw [if_neg c7] at H
              exact absurd H (by simp)
          · rw [if_neg c4] at H
            exact absurd H (by simp)
        · rw [if_neg c3] at H
          exact absurd H (by simp)
      · rw [if_neg c2] at H
        have c2b0 : decide (x7_1 < (a0.size : Int)) = false := decide_eq_false c2
        clear c2
        obtain rfl := Option.some.inj H
        go_wp2
        go_ret
        exact ⟨by first | rfl | (simp [errW_none, errW_some] <;> rfl) | (simp [*, errW_none, errW_some] <;> rfl), by repeat (first | (with_reducible first | exact HB.out | apply below_alloc | apply pw_below_drewN | apply below_drew1) | exact HB.out)⟩

def keymap_Default.f  : Option ((List (S45))) := some (([(⟨(⟨#[1]⟩ : ByteArray), 5⟩ : S45), (⟨(⟨#[2]⟩ : ByteArray), 3⟩ : S45), (⟨(⟨#[3]⟩ : ByteArray), 24⟩ : S45), (⟨(⟨#[4]⟩ : ByteArray), 23⟩ : S45), (⟨(⟨#[5]⟩ : ByteArray), 6⟩ : S45), (⟨(⟨#[6]⟩ : ByteArray), 4⟩ : S45), (⟨(⟨#[8]⟩ : ByteArray), 9⟩ : S45), (⟨(⟨#[9]⟩ : ByteArray), 22⟩ : S45), (⟨(⟨#[10]⟩ : ByteArray), 2⟩ : S45), (⟨(⟨#[11]⟩ : ByteArray), 11⟩ : S45), (⟨(⟨#[13]⟩ : ByteArray), 2⟩ : S45), (⟨(⟨#[14]⟩ : ByteArray), 21⟩ : S45), (⟨(⟨#[16]⟩ : ByteArray), 20⟩ : S45), (⟨(⟨#[20]⟩ : ByteArray), 19⟩ : S45), (⟨(⟨#[21]⟩ : ByteArray), 12⟩ : S45), (⟨(⟨#[23]⟩ : ByteArray), 14⟩ : S45), (⟨(⟨#[24, 18]⟩ : ByteArray), 18⟩ : S45), (⟨(⟨#[24, 21]⟩ : ByteArray), 17⟩ : S45), (⟨(⟨#[24, 24]⟩ : ByteArray), 26⟩ : S45), (⟨(⟨#[25]⟩ : ByteArray), 15⟩ : S45), (⟨(⟨#[27, 32]⟩ : ByteArray), 25⟩ : S45), (⟨(⟨#[27, 91, 65]⟩ : ByteArray), 20⟩ : S45), (⟨(⟨#[27, 91, 66]⟩ : ByteArray), 21⟩ : S45), (⟨(⟨#[27, 91, 67]⟩ : ByteArray), 4⟩ : S45), (⟨(⟨#[27, 91, 68]⟩ : ByteArray), 3⟩ : S45), (⟨(⟨#[27, 98]⟩ : ByteArray), 7⟩ : S45), (⟨(⟨#[27, 100]⟩ : ByteArray), 13⟩ : S45), (⟨(⟨#[27, 102]⟩ : ByteArray), 8⟩ : S45), (⟨(⟨#[27, 108]⟩ : ByteArray), 28⟩ : S45), (⟨(⟨#[27, 117]⟩ : ByteArray), 27⟩ : S45), (⟨(⟨#[27, 121]⟩ : ByteArray), 16⟩ : S45), (⟨(⟨#[31]⟩ : ByteArray), 17⟩ : S45), (⟨(⟨#[127]⟩ : ByteArray), 9⟩ : S45)] : List (S45)))
set_option maxHeartbeats 8000000 in
set_option maxRecDepth 100000 in
theorem keymap_Default.calls  (r : List (S45)) (w : World) (h : keymap_Default.f  = some r) :
    Calls Tryd.prog 14 #[] w fun e w' => ∃ v0_ : Value, e = .returned (v0_) ∧ Kd.R k45 45 w' w.heap.size (fun _ => True) v0_ r ∧ Below w.heap.size w w' := by
  have hu45 := Tryd.underlying45
  have HB := Aside0.mk (Below.refl w.heap.size w)
  have H : (some (([(⟨(⟨#[1]⟩ : ByteArray), 5⟩ : S45), (⟨(⟨#[2]⟩ : ByteArray), 3⟩ : S45), (⟨(⟨#[3]⟩ : ByteArray), 24⟩ : S45), (⟨(⟨#[4]⟩ : ByteArray), 23⟩ : S45), (⟨(⟨#[5]⟩ : ByteArray), 6⟩ : S45), (⟨(⟨#[6]⟩ : ByteArray), 4⟩ : S45), (⟨(⟨#[8]⟩ : ByteArray), 9⟩ : S45), (⟨(⟨#[9]⟩ : ByteArray), 22⟩ : S45), (⟨(⟨#[10]⟩ : ByteArray), 2⟩ : S45), (⟨(⟨#[11]⟩ : ByteArray), 11⟩ : S45), (⟨(⟨#[13]⟩ : ByteArray), 2⟩ : S45), (⟨(⟨#[14]⟩ : ByteArray), 21⟩ : S45), (⟨(⟨#[16]⟩ : ByteArray), 20⟩ : S45), (⟨(⟨#[20]⟩ : ByteArray), 19⟩ : S45), (⟨(⟨#[21]⟩ : ByteArray), 12⟩ : S45), (⟨(⟨#[23]⟩ : ByteArray), 14⟩ : S45), (⟨(⟨#[24, 18]⟩ : ByteArray), 18⟩ : S45), (⟨(⟨#[24, 21]⟩ : ByteArray), 17⟩ : S45), (⟨(⟨#[24, 24]⟩ : ByteArray), 26⟩ : S45), (⟨(⟨#[25]⟩ : ByteArray), 15⟩ : S45), (⟨(⟨#[27, 32]⟩ : ByteArray), 25⟩ : S45), (⟨(⟨#[27, 91, 65]⟩ : ByteArray), 20⟩ : S45), (⟨(⟨#[27, 91, 66]⟩ : ByteArray), 21⟩ : S45), (⟨(⟨#[27, 91, 67]⟩ : ByteArray), 4⟩ : S45), (⟨(⟨#[27, 91, 68]⟩ : ByteArray), 3⟩ : S45), (⟨(⟨#[27, 98]⟩ : ByteArray), 7⟩ : S45), (⟨(⟨#[27, 100]⟩ : ByteArray), 13⟩ : S45), (⟨(⟨#[27, 102]⟩ : ByteArray), 8⟩ : S45), (⟨(⟨#[27, 108]⟩ : ByteArray), 28⟩ : S45), (⟨(⟨#[27, 117]⟩ : ByteArray), 27⟩ : S45), (⟨(⟨#[27, 121]⟩ : ByteArray), 16⟩ : S45), (⟨(⟨#[31]⟩ : ByteArray), 17⟩ : S45), (⟨(⟨#[127]⟩ : ByteArray), 9⟩ : S45)] : List (S45)))) = some r := h
  clear h
  obtain ⟨y104, hy104⟩ : ∃ y_ : List (S45), y_ = (([(⟨(⟨#[1]⟩ : ByteArray), 5⟩ : S45), (⟨(⟨#[2]⟩ : ByteArray), 3⟩ : S45), (⟨(⟨#[3]⟩ : ByteArray), 24⟩ : S45), (⟨(⟨#[4]⟩ : ByteArray), 23⟩ : S45), (⟨(⟨#[5]⟩ : ByteArray), 6⟩ : S45), (⟨(⟨#[6]⟩ : ByteArray), 4⟩ : S45), (⟨(⟨#[8]⟩ : ByteArray), 9⟩ : S45), (⟨(⟨#[9]⟩ : ByteArray), 22⟩ : S45), (⟨(⟨#[10]⟩ : ByteArray), 2⟩ : S45), (⟨(⟨#[11]⟩ : ByteArray), 11⟩ : S45), (⟨(⟨#[13]⟩ : ByteArray), 2⟩ : S45), (⟨(⟨#[14]⟩ : ByteArray), 21⟩ : S45), (⟨(⟨#[16]⟩ : ByteArray), 20⟩ : S45), (⟨(⟨#[20]⟩ : ByteArray), 19⟩ : S45), (⟨(⟨#[21]⟩ : ByteArray), 12⟩ : S45), (⟨(⟨#[23]⟩ : ByteArray), 14⟩ : S45), (⟨(⟨#[24, 18]⟩ : ByteArray), 18⟩ : S45), (⟨(⟨#[24, 21]⟩ : ByteArray), 17⟩ : S45), (⟨(⟨#[24, 24]⟩ : ByteArray), 26⟩ : S45), (⟨(⟨#[25]⟩ : ByteArray), 15⟩ : S45), (⟨(⟨#[27, 32]⟩ : ByteArray), 25⟩ : S45), (⟨(⟨#[27, 91, 65]⟩ : ByteArray), 20⟩ : S45), (⟨(⟨#[27, 91, 66]⟩ : ByteArray), 21⟩ : S45), (⟨(⟨#[27, 91, 67]⟩ : ByteArray), 4⟩ : S45), (⟨(⟨#[27, 91, 68]⟩ : ByteArray), 3⟩ : S45), (⟨(⟨#[27, 98]⟩ : ByteArray), 7⟩ : S45), (⟨(⟨#[27, 100]⟩ : ByteArray), 13⟩ : S45), (⟨(⟨#[27, 102]⟩ : ByteArray), 8⟩ : S45), (⟨(⟨#[27, 108]⟩ : ByteArray), 28⟩ : S45), (⟨(⟨#[27, 117]⟩ : ByteArray), 27⟩ : S45), (⟨(⟨#[27, 121]⟩ : ByteArray), 16⟩ : S45), (⟨(⟨#[31]⟩ : ByteArray), 17⟩ : S45), (⟨(⟨#[127]⟩ : ByteArray), 9⟩ : S45)] : List (S45))) := ⟨_, rfl⟩
  replace H : (some y104) = some r := by first | (rw [hy104]; with_reducible exact H) | (have H2_ := (Option.bind_some _ _).symm.trans H; rw [hy104]; with_reducible exact H2_) | (have H2_ := (Option.bind_some _ _).symm.trans H; with_reducible exact H2_) | with_reducible exact H | (rw [hy104]; exact H) | exact H
  have Ny104 := Aside0.mk hy104
  clear hy104
  obtain rfl := Option.some.inj H
  go_enter Tryd.func14, Tryd.ntmps14
  go_wp2_with (first | ((with_reducible refine gate_dst (N := 34) rfl ?_); refine Kd.R_lit k45 _ 45 ?hg (N := 34) ?hd (xs := ([(⟨(⟨#[1]⟩ : ByteArray), 5⟩ : S45), (⟨(⟨#[2]⟩ : ByteArray), 3⟩ : S45), (⟨(⟨#[3]⟩ : ByteArray), 24⟩ : S45), (⟨(⟨#[4]⟩ : ByteArray), 23⟩ : S45), (⟨(⟨#[5]⟩ : ByteArray), 6⟩ : S45), (⟨(⟨#[6]⟩ : ByteArray), 4⟩ : S45), (⟨(⟨#[8]⟩ : ByteArray), 9⟩ : S45), (⟨(⟨#[9]⟩ : ByteArray), 22⟩ : S45), (⟨(⟨#[10]⟩ : ByteArray), 2⟩ : S45), (⟨(⟨#[11]⟩ : ByteArray), 11⟩ : S45), (⟨(⟨#[13]⟩ : ByteArray), 2⟩ : S45), (⟨(⟨#[14]⟩ : ByteArray), 21⟩ : S45), (⟨(⟨#[16]⟩ : ByteArray), 20⟩ : S45), (⟨(⟨#[20]⟩ : ByteArray), 19⟩ : S45), (⟨(⟨#[21]⟩ : ByteArray), 12⟩ : S45), (⟨(⟨#[23]⟩ : ByteArray), 14⟩ : S45), (⟨(⟨#[24, 18]⟩ : ByteArray), 18⟩ : S45), (⟨(⟨#[24, 21]⟩ : ByteArray), 17⟩ : S45), (⟨(⟨#[24, 24]⟩ : ByteArray), 26⟩ : S45), (⟨(⟨#[25]⟩ : ByteArray), 15⟩ : S45), (⟨(⟨#[27, 32]⟩ : ByteArray), 25⟩ : S45), (⟨(⟨#[27, 91, 65]⟩ : ByteArray), 20⟩ : S45), (⟨(⟨#[27, 91, 66]⟩ : ByteArray), 21⟩ : S45), (⟨(⟨#[27, 91, 67]⟩ : ByteArray), 4⟩ : S45), (⟨(⟨#[27, 91, 68]⟩ : ByteArray), 3⟩ : S45), (⟨(⟨#[27, 98]⟩ : ByteArray), 7⟩ : S45), (⟨(⟨#[27, 100]⟩ : ByteArray), 13⟩ : S45), (⟨(⟨#[27, 102]⟩ : ByteArray), 8⟩ : S45), (⟨(⟨#[27, 108]⟩ : ByteArray), 28⟩ : S45), (⟨(⟨#[27, 117]⟩ : ByteArray), 27⟩ : S45), (⟨(⟨#[27, 121]⟩ : ByteArray), 16⟩ : S45), (⟨(⟨#[31]⟩ : ByteArray), 17⟩ : S45), (⟨(⟨#[127]⟩ : ByteArray), 9⟩ : S45)] : List (S45))) (inner := [.string (⟨#[1]⟩ : ByteArray), .int .i64 5, .string (⟨#[2]⟩ : ByteArray), .int .i64 3, .string (⟨#[3]⟩ : ByteArray), .int .i64 24, .string (⟨#[4]⟩ : ByteArray), .int .i64 23, .string (⟨#[5]⟩ : ByteArray), .int .i64 6, .string (⟨#[6]⟩ : ByteArray), .int .i64 4, .string (⟨#[8]⟩ : ByteArray), .int .i64 9, .string (⟨#[9]⟩ : ByteArray), .int .i64 22, .string (⟨#[10]⟩ : ByteArray), .int .i64 2, .string (⟨#[11]⟩ : ByteArray), .int .i64 11, .string (⟨#[13]⟩ : ByteArray), .int .i64 2, .string (⟨#[14]⟩ : ByteArray), .int .i64 21, .string (⟨#[16]⟩ : ByteArray), .int .i64 20, .string (⟨#[20]⟩ : ByteArray), .int .i64 19, .string (⟨#[21]⟩ : ByteArray), .int .i64 12, .string (⟨#[23]⟩ : ByteArray), .int .i64 14, .string (⟨#[24, 18]⟩ : ByteArray), .int .i64 18, .string (⟨#[24, 21]⟩ : ByteArray), .int .i64 17, .string (⟨#[24, 24]⟩ : ByteArray), .int .i64 26, .string (⟨#[25]⟩ : ByteArray), .int .i64 15, .string (⟨#[27, 32]⟩ : ByteArray), .int .i64 25, .string (⟨#[27, 91, 65]⟩ : ByteArray), .int .i64 20, .string (⟨#[27, 91, 66]⟩ : ByteArray), .int .i64 21, .string (⟨#[27, 91, 67]⟩ : ByteArray), .int .i64 4, .string (⟨#[27, 91, 68]⟩ : ByteArray), .int .i64 3, .string (⟨#[27, 98]⟩ : ByteArray), .int .i64 7, .string (⟨#[27, 100]⟩ : ByteArray), .int .i64 13, .string (⟨#[27, 102]⟩ : ByteArray), .int .i64 8, .string (⟨#[27, 108]⟩ : ByteArray), .int .i64 28, .string (⟨#[27, 117]⟩ : ByteArray), .int .i64 27, .string (⟨#[27, 121]⟩ : ByteArray), .int .i64 16, .string (⟨#[31]⟩ : ByteArray), .int .i64 17, .string (⟨#[127]⟩ : ByteArray), .int .i64 9]) (ok := fun _ => True) (okp := fun _ => True) ?hr ?hp (fun _ hk => hk) trivial (Below.refl _ _) (Nat.le_refl _) (by simp) ?_; (case hd => rfl); (case hg => rfl); (case hr => first | (go_simp; done) | (go_simp; rfl)); (case hp => exact (Reps.c2 (show Kd.M k45 _ _ _ (⟨(⟨#[1]⟩ : ByteArray), 5⟩ : S45) [.string (⟨#[1]⟩ : ByteArray), .int .i64 5] from (k45_mkM _ _ _ (⟨(⟨#[1]⟩ : ByteArray), 5⟩ : S45) )) (Reps.c2 (show Kd.M k45 _ _ _ (⟨(⟨#[2]⟩ : ByteArray), 3⟩ : S45) [.string (⟨#[2]⟩ : ByteArray), .int .i64 3] from (k45_mkM _ _ _ (⟨(⟨#[2]⟩ : ByteArray), 3⟩ : S45) )) (Reps.c2 (show Kd.M k45 _ _ _ (⟨(⟨#[3]⟩ : ByteArray), 24⟩ : S45) [.string (⟨#[3]⟩ : ByteArray), .int .i64 24] from (k45_mkM _ _ _ (⟨(⟨#[3]⟩ : ByteArray), 24⟩ : S45) )) (Reps.c2 (show Kd.M k45 _ _ _ (⟨(⟨#[4]⟩ : ByteArray), 23⟩ : S45) [.string (⟨#[4]⟩ : ByteArray), .int .i64 23] from (k45_mkM _ _ _ (⟨(⟨#[4]⟩ : ByteArray), 23⟩ : S45) )) (Reps.c2 (show Kd.M k45 _ _ _ (⟨(⟨#[5]⟩ : ByteArray), 6⟩ : S45) [.string (⟨#[5]⟩ : ByteArray), .int .i64 6] from (k45_mkM _ _ _ (⟨(⟨#[5]⟩ : ByteArray), 6⟩ : S45) )) (Reps.c2 (show Kd.M k45 _ _ _ (⟨(⟨#[6]⟩ : ByteArray), 4⟩ : S45) [.string (⟨#[6]⟩ : ByteArray), .int .i64 4] from (k45_mkM _ _ _ (⟨(⟨#[6]⟩ : ByteArray), 4⟩ : S45) )) (Reps.c2 (show Kd.M k45 _ _ _ (⟨(⟨#[8]⟩ : ByteArray), 9⟩ : S45) [.string (⟨#[8]⟩ : ByteArray), .int .i64 9] from (k45_mkM _ _ _ (⟨(⟨#[8]⟩ : ByteArray), 9⟩ : S45) )) (Reps.c2 (show Kd.M k45 _ _ _ (⟨(⟨#[9]⟩ : ByteArray), 22⟩ : S45) [.string (⟨#[9]⟩ : ByteArray), .int .i64 22] from (k45_mkM _ _ _ (⟨(⟨#[9]⟩ : ByteArray), 22⟩ : S45) )) (Reps.c2 (show Kd.M k45 _ _ _ (⟨(⟨#[10]⟩ : ByteArray), 2⟩ : S45) [.string (⟨#[10]⟩ : ByteArray), .int .i64 2] from (k45_mkM _ _ _ (⟨(⟨#[10]⟩ : ByteArray), 2⟩ : S45) )) (Reps.c2 (show Kd.M k45 _ _ _ (⟨(⟨#[11]⟩ : ByteArray), 11⟩ : S45) [.string (⟨#[11]⟩ : ByteArray), .int .i64 11] from (k45_mkM _ _ _ (⟨(⟨#[11]⟩ : ByteArray), 11⟩ : S45) )) (Reps.c2 (show Kd.M k45 _ _ _ (⟨(⟨#[13]⟩ : ByteArray), 2⟩ : S45) [.string (⟨#[13]⟩ : ByteArray), .int .i64 2] from (k45_mkM _ _ _ (⟨(⟨#[13]⟩ : ByteArray), 2⟩ : S45) )) (Reps.c2 (show Kd.M k45 _ _ _ (⟨(⟨#[14]⟩ : ByteArray), 21⟩ : S45) [.string (⟨#[14]⟩ : ByteArray), .int .i64 21] from (k45_mkM _ _ _ (⟨(⟨#[14]⟩ : ByteArray), 21⟩ : S45) )) (Reps.c2 (show Kd.M k45 _ _ _ (⟨(⟨#[16]⟩ : ByteArray), 20⟩ : S45) [.string (⟨#[16]⟩ : ByteArray), .int .i64 20] from (k45_mkM _ _ _ (⟨(⟨#[16]⟩ : ByteArray), 20⟩ : S45) )) (Reps.c2 (show Kd.M k45 _ _ _ (⟨(⟨#[20]⟩ : ByteArray), 19⟩ : S45) [.string (⟨#[20]⟩ : ByteArray), .int .i64 19] from (k45_mkM _ _ _ (⟨(⟨#[20]⟩ : ByteArray), 19⟩ : S45) )) (Reps.c2 (show Kd.M k45 _ _ _ (⟨(⟨#[21]⟩ : ByteArray), 12⟩ : S45) [.string (⟨#[21]⟩ : ByteArray), .int .i64 12] from (k45_mkM _ _ _ (⟨(⟨#[21]⟩ : ByteArray), 12⟩ : S45) )) (Reps.c2 (show Kd.M k45 _ _ _ (⟨(⟨#[23]⟩ : ByteArray), 14⟩ : S45) [.string (⟨#[23]⟩ : ByteArray), .int .i64 14] from (k45_mkM _ _ _ (⟨(⟨#[23]⟩ : ByteArray), 14⟩ : S45) )) (Reps.c2 (show Kd.M k45 _ _ _ (⟨(⟨#[24, 18]⟩ : ByteArray), 18⟩ : S45) [.string (⟨#[24, 18]⟩ : ByteArray), .int .i64 18] from (k45_mkM _ _ _ (⟨(⟨#[24, 18]⟩ : ByteArray), 18⟩ : S45) )) (Reps.c2 (show Kd.M k45 _ _ _ (⟨(⟨#[24, 21]⟩ : ByteArray), 17⟩ : S45) [.string (⟨#[24, 21]⟩ : ByteArray), .int .i64 17] from (k45_mkM _ _ _ (⟨(⟨#[24, 21]⟩ : ByteArray), 17⟩ : S45) )) (Reps.c2 (show Kd.M k45 _ _ _ (⟨(⟨#[24, 24]⟩ : ByteArray), 26⟩ : S45) [.string (⟨#[24, 24]⟩ : ByteArray), .int .i64 26] from (k45_mkM _ _ _ (⟨(⟨#[24, 24]⟩ : ByteArray), 26⟩ : S45) )) (Reps.c2 (show Kd.M k45 _ _ _ (⟨(⟨#[25]⟩ : ByteArray), 15⟩ : S45) [.string (⟨#[25]⟩ : ByteArray), .int .i64 15] from (k45_mkM _ _ _ (⟨(⟨#[25]⟩ : ByteArray), 15⟩ : S45) )) (Reps.c2 (show Kd.M k45 _ _ _ (⟨(⟨#[27, 32]⟩ : ByteArray), 25⟩ : S45) [.string (⟨#[27, 32]⟩ : ByteArray), .int .i64 25] from (k45_mkM _ _ _ (⟨(⟨#[27, 32]⟩ : ByteArray), 25⟩ : S45) )) (Reps.c2 (show Kd.M k45 _ _ _ (⟨(⟨#[27, 91, 65]⟩ : ByteArray), 20⟩ : S45) [.string (⟨#[27, 91, 65]⟩ : ByteArray), .int .i64 20] from (k45_mkM _ _ _ (⟨(⟨#[27, 91, 65]⟩ : ByteArray), 20⟩ : S45) )) (Reps.c2 (show Kd.M k45 _ _ _ (⟨(⟨#[27, 91, 66]⟩ : ByteArray), 21⟩ : S45) [.string (⟨#[27, 91, 66]⟩ : ByteArray), .int .i64 21] from (k45_mkM _ _ _ (⟨(⟨#[27, 91, 66]⟩ : ByteArray), 21⟩ : S45) )) (Reps.c2 (show Kd.M k45 _ _ _ (⟨(⟨#[27, 91, 67]⟩ : ByteArray), 4⟩ : S45) [.string (⟨#[27, 91, 67]⟩ : ByteArray), .int .i64 4] from (k45_mkM _ _ _ (⟨(⟨#[27, 91, 67]⟩ : ByteArray), 4⟩ : S45) )) (Reps.c2 (show Kd.M k45 _ _ _ (⟨(⟨#[27, 91, 68]⟩ : ByteArray), 3⟩ : S45) [.string (⟨#[27, 91, 68]⟩ : ByteArray), .int .i64 3] from (k45_mkM _ _ _ (⟨(⟨#[27, 91, 68]⟩ : ByteArray), 3⟩ : S45) )) (Reps.c2 (show Kd.M k45 _ _ _ (⟨(⟨#[27, 98]⟩ : ByteArray), 7⟩ : S45) [.string (⟨#[27, 98]⟩ : ByteArray), .int .i64 7] from (k45_mkM _ _ _ (⟨(⟨#[27, 98]⟩ : ByteArray), 7⟩ : S45) )) (Reps.c2 (show Kd.M k45 _ _ _ (⟨(⟨#[27, 100]⟩ : ByteArray), 13⟩ : S45) [.string (⟨#[27, 100]⟩ : ByteArray), .int .i64 13] from (k45_mkM _ _ _ (⟨(⟨#[27, 100]⟩ : ByteArray), 13⟩ : S45) )) (Reps.c2 (show Kd.M k45 _ _ _ (⟨(⟨#[27, 102]⟩ : ByteArray), 8⟩ : S45) [.string (⟨#[27, 102]⟩ : ByteArray), .int .i64 8] from (k45_mkM _ _ _ (⟨(⟨#[27, 102]⟩ : ByteArray), 8⟩ : S45) )) (Reps.c2 (show Kd.M k45 _ _ _ (⟨(⟨#[27, 108]⟩ : ByteArray), 28⟩ : S45) [.string (⟨#[27, 108]⟩ : ByteArray), .int .i64 28] from (k45_mkM _ _ _ (⟨(⟨#[27, 108]⟩ : ByteArray), 28⟩ : S45) )) (Reps.c2 (show Kd.M k45 _ _ _ (⟨(⟨#[27, 117]⟩ : ByteArray), 27⟩ : S45) [.string (⟨#[27, 117]⟩ : ByteArray), .int .i64 27] from (k45_mkM _ _ _ (⟨(⟨#[27, 117]⟩ : ByteArray), 27⟩ : S45) )) (Reps.c2 (show Kd.M k45 _ _ _ (⟨(⟨#[27, 121]⟩ : ByteArray), 16⟩ : S45) [.string (⟨#[27, 121]⟩ : ByteArray), .int .i64 16] from (k45_mkM _ _ _ (⟨(⟨#[27, 121]⟩ : ByteArray), 16⟩ : S45) )) (Reps.c2 (show Kd.M k45 _ _ _ (⟨(⟨#[31]⟩ : ByteArray), 17⟩ : S45) [.string (⟨#[31]⟩ : ByteArray), .int .i64 17] from (k45_mkM _ _ _ (⟨(⟨#[31]⟩ : ByteArray), 17⟩ : S45) )) (Reps.c2 (show Kd.M k45 _ _ _ (⟨(⟨#[127]⟩ : ByteArray), 9⟩ : S45) [.string (⟨#[127]⟩ : ByteArray), .int .i64 9] from (k45_mkM _ _ _ (⟨(⟨#[127]⟩ : ByteArray), 9⟩ : S45) )) (Reps.none _ _))))))))))))))))))))))))))))))))))); intro v105 w1 ho2 hb hg_ hnew_; clear hg_ hnew_; (first | rw [← Ny104.out] at ho2 | (simp only [Int.reduceToNat] at ho2; rw [← Ny104.out] at ho2)); have n0_ := Aside0.mk (Kd.R_lower ho2 (below_size (by repeat (first | (with_reducible first | exact HB.out | apply below_alloc | apply pw_below_drewN | apply below_drew1) | exact HB.out)))); have n1_ := Aside0.mk (below_step (by repeat (first | (with_reducible first | exact HB.out | apply below_alloc | apply pw_below_drewN | apply below_drew1) | exact HB.out)) hb); clear HB; have HO106 := n0_; have HB := n1_; clear n0_ n1_; clear hb ho2))
  go_ret
  exact ⟨_, by first | rfl | (simp [errW_none, errW_some] <;> rfl) | (simp [*, errW_none, errW_some] <;> rfl), by (with_reducible repeat (first | apply Kd.R_alloc | apply Kd.R_drewN | apply Kd.R_drew)); exact HO106.out, by repeat (first | (with_reducible first | exact HB.out | apply below_alloc | apply pw_below_drewN | apply below_drew1) | exact HB.out)⟩

def keymap_action.f (a0 : Int) : Option (Bool) := if a0 ≥ 1 then (some (decide (a0 ≤ 28))) else (some false)
set_option maxHeartbeats 8000000 in
set_option maxRecDepth 100000 in
theorem keymap_action.calls (a0 : Int) (r : Bool) (w : World) (h : keymap_action.f a0 = some r) :
    Calls Tryd.prog 31 #[.int .i64 a0] w fun e w' => e = .returned (.bool r) ∧ Drawn0 w w' := by
  have H : (if a0 ≥ 1 then (some (decide (a0 ≤ 28))) else (some false)) = some r := h
  clear h
  by_cases c2 : a0 ≥ 1
  · rw [if_pos c2] at H
    have c2b0 : decide (1 ≤ a0) = true := decide_eq_true c2
    clear c2
    obtain rfl := Option.some.inj H
    go_enter Tryd.func31, Tryd.ntmps31
    go_wp2
    go_ret
    exact ⟨by first | rfl | (simp; done) | (simp [*]; done), by repeat (first | exact Drawn0.refl _ | apply Drawn0.step)⟩
  · rw [if_neg c2] at H
    have c2b0 : decide (1 ≤ a0) = false := decide_eq_false c2
    clear c2
    obtain rfl := Option.some.inj H
    go_enter Tryd.func31, Tryd.ntmps31
    go_wp2
    go_ret
    exact ⟨by first | rfl | (simp; done) | (simp [*]; done), by repeat (first | exact Drawn0.refl _ | apply Drawn0.step)⟩

def stringslite_HasPrefix.f (a0 : ByteArray) (a1 : ByteArray) : Option (Bool) := if (a0.size : Int) ≥ (a1.size : Int) then (if 0 ≤ (a1.size : Int) then (if (a1.size : Int) ≤ (a0.size : Int) then (some ((a0.extract 0 ((a1.size : Int) : Int).toNat).toList == a1.toList)) else (none)) else (none)) else (some false)
set_option maxHeartbeats 8000000 in
set_option maxRecDepth 100000 in
theorem stringslite_HasPrefix.calls (a0 : ByteArray) (a1 : ByteArray) (r : Bool) (w : World) (h : stringslite_HasPrefix.f a0 a1 = some r) :
    Calls Tryd.prog 41 #[.string a0, .string a1] w fun e w' => e = .returned (.bool r) ∧ Drawn0 w w' := by
  have H : (if (a0.size : Int) ≥ (a1.size : Int) then (if 0 ≤ (a1.size : Int) then (if (a1.size : Int) ≤ (a0.size : Int) then (some ((a0.extract 0 ((a1.size : Int) : Int).toNat).toList == a1.toList)) else (none)) else (none)) else (some false)) = some r := h
  clear h
  by_cases c3 : (a0.size : Int) ≥ (a1.size : Int)
  · rw [if_pos c3] at H
    have c3b0 : decide ((a1.size : Int) ≤ (a0.size : Int)) = true := decide_eq_true c3
    have c3b1 : decide (a1.size ≤ a0.size) = true := decide_eq_true (Int.ofNat_le.mp c3)
    clear c3
    by_cases c4 : 0 ≤ (a1.size : Int)
    · rw [if_pos c4] at H
      have c4b0 := eq_true c4
      have c4b1 : decide (0 ≤ (a1.size : Int)) = true := decide_eq_true c4
      clear c4
      by_cases c5 : (a1.size : Int) ≤ (a0.size : Int)
      · rw [if_pos c5] at H
        have c5b0 := eq_true c5
        have c5b1 : decide ((a1.size : Int) ≤ (a0.size : Int)) = true := decide_eq_true c5
        clear c5
        obtain rfl := Option.some.inj H
        go_enter Tryd.func41, Tryd.ntmps41
        go_wp2
        go_ret
        exact ⟨by first | rfl | (simp; done) | (simp [*]; done), by repeat (first | exact Drawn0.refl _ | apply Drawn0.step)⟩
      · rw [if_neg c5] at H
        exact absurd H (by simp)
    · rw [if_neg c4] at H
      exact absurd H (by simp)
  · rw [if_neg c3] at H
    have c3b0 : decide ((a1.size : Int) ≤ (a0.size : Int)) = false := decide_eq_false c3
    have c3b1 : decide (a1.size ≤ a0.size) = false := decide_eq_false (fun h => c3 (Int.ofNat_le.mpr h))
    clear c3
    obtain rfl := Option.some.inj H
    go_enter Tryd.func41, Tryd.ntmps41
    go_wp2
    go_ret
    exact ⟨by first | rfl | (simp; done) | (simp [*]; done), by repeat (first | exact Drawn0.refl _ | apply Drawn0.step)⟩

def strings_HasPrefix.f (a0 : ByteArray) (a1 : ByteArray) : Option (Bool) := (stringslite_HasPrefix.f a0 a1).bind fun t107 => (some t107)
set_option maxHeartbeats 8000000 in
set_option maxRecDepth 100000 in
theorem strings_HasPrefix.calls (a0 : ByteArray) (a1 : ByteArray) (r : Bool) (w : World) (h : strings_HasPrefix.f a0 a1 = some r) :
    Calls Tryd.prog 32 #[.string a0, .string a1] w fun e w' => e = .returned (.bool r) ∧ Drawn0 w w' := by
  have H : ((stringslite_HasPrefix.f a0 a1).bind fun t107 => (some t107)) = some r := h
  clear h
  replace H := Option.bind_eq_some_iff.mp H
  obtain ⟨t107, A30, H⟩ := H
  replace H : (some t107) = some r := H
  have A3 := Aside0.mk A30
  clear A30
  obtain rfl := Option.some.inj H
  go_enter Tryd.func32, Tryd.ntmps32
  go_wp2_with (first | ((with_reducible refine gate_callee (f := 41) rfl ?_); refine goesL_ (some 7) rfl rfl Tryd.func41 (by kernel_rfl) rfl #[.string a0, .string a1] rfl (by (try simp only [List.map_toArray, List.map_cons, List.map_nil]); first | done | rfl | (simp only [List.length_drop, List.length_take]; rfl)) ?_; (with_reducible refine (stringslite_HasPrefix.calls a0 a1 t107 _ A3.out).mono ?_); rintro e w' ⟨rfl, ⟨nd, rfl⟩⟩; refine ⟨_, rfl, ?_⟩))
  go_ret
  exact ⟨by first | rfl | (simp; done) | (simp [*]; done), by repeat (first | exact Drawn0.refl _ | apply Drawn0.step)⟩

end Go.Proofs.YtklcndfnboieoaaDoor.P
