-- Written by a program of this session (mkprinter.py over the kit's printer) out of the translation. Lean checks it.
import Derived.Test.YtklcndfnboieoaaDoorPx0
import Derived.Test.YtklcndfnboieoaaDoorPx1
import Derived.Test.YtklcndfnboieoaaDoorPx2
import Derived.Test.YtklcndfnboieoaaDoorPx5
import Derived.Test.YtklcndfnboieoaaDoorPx6
namespace Go.Proofs.YtklcndfnboieoaaDoor.P
open Go.RowKit Go.Proofs.YtklcndfnboieoaaDoorW.PrintWords Go.Proofs.YtklcndfnboieoaaDoorW.PrintLast Go.Proofs.YtklcndfnboieoaaDoorW.PrintMore
attribute [local go_sem] max2_int min2_int max_two min_two max_three min_three max_four min_four   -- for this text's walks alone
open Go.Proofs.YtklcndfnboieoaaDoor.H
set_option linter.unusedVariables false
set_option linter.unusedSimpArgs false

attribute [local go_sem high] eqA45
/-! ### jobshellref45_Parse: function 11 -/
mutual
def jobshellref45_Parse.l0 : Nat → ByteArray → ByteArray → Int → Int → Option (ByteArray × Int)
  | 0, _, _, _, _ => none
  | k + 1, x0, x4, x5, x6 => if x6 ≤ (x0.size : Int) then (jobshellref45_Parse.j1 k x0 x4 x5 x6 (decide (x5 < (x0.size : Int)))) else (jobshellref45_Parse.j1 k x0 x4 x5 x6 false)
def jobshellref45_Parse.j1 : Nat → ByteArray → ByteArray → Int → Int → Bool → Option (ByteArray × Int)
  | 0, _, _, _, _, _ => none
  | k + 1, x0, x4, x5, x6, x19 => if x19 = true then ((jobshellref45_form.f k x0 x5).bind fun bt206 => (if bt206.2.2 = 0 then (if x4.size + bt206.1.size ≤ 9223372036854775807 then (jobshellref45_Parse.l0 k x0 (x4 ++ bt206.1) bt206.2.1 (wrap64 (x6 + 1))) else (none)) else (some ((⟨#[]⟩ : ByteArray), bt206.2.2)))) else (if (x4.size : Int) > 16 then (some ((⟨#[]⟩ : ByteArray), 3)) else (some (x4, 0)))
end
def jobshellref45_Parse.f (k : Nat) (a0 : ByteArray) : Option (ByteArray × Int) := jobshellref45_Parse.l0 k a0 (⟨#[]⟩ : ByteArray) 0 0
theorem jobshellref45_Parse.mono_l : ∀ k, (∀ y0 y1 y2 y3, LeO (jobshellref45_Parse.l0 k y0 y1 y2 y3) (jobshellref45_Parse.l0 (k + 1) y0 y1 y2 y3)) ∧ (∀ y0 y1 y2 y3 y4, LeO (jobshellref45_Parse.j1 k y0 y1 y2 y3 y4) (jobshellref45_Parse.j1 (k + 1) y0 y1 y2 y3 y4))
  | 0 => ⟨fun _ _ _ _ r h => by simp [jobshellref45_Parse.l0] at h, fun _ _ _ _ _ r h => by simp [jobshellref45_Parse.j1] at h⟩
  | k + 1 => by
    obtain ⟨ih0, ih1⟩ := jobshellref45_Parse.mono_l k
    refine ⟨?_, ?_⟩
    · intro y0 y1 y2 y3
      unfold jobshellref45_Parse.l0
      repeat' first
      | (with_reducible exact ih0 _ _ _ _)
      | (with_reducible exact ih1 _ _ _ _ _)
      | (with_reducible exact jobshellref45_form.mono _ _ _)
      | (with_reducible exact LeO.refl _)
      | (with_reducible exact LeO.none _)
      | (with_reducible refine LeO.ite ?_ ?_)
      | (with_reducible refine LeO.bind ?_ (fun _ => ?_))
      | exact ih0 _ _ _ _
      | exact ih1 _ _ _ _ _
      | exact jobshellref45_form.mono _ _ _
      | exact LeO.none _
      | refine LeO.ite ?_ ?_
      | refine LeO.bind ?_ (fun _ => ?_)
    · intro y0 y1 y2 y3 y4
      unfold jobshellref45_Parse.j1
      repeat' first
      | (with_reducible exact ih0 _ _ _ _)
      | (with_reducible exact ih1 _ _ _ _ _)
      | (with_reducible exact jobshellref45_form.mono _ _ _)
      | (with_reducible exact LeO.refl _)
      | (with_reducible exact LeO.none _)
      | (with_reducible refine LeO.ite ?_ ?_)
      | (with_reducible refine LeO.bind ?_ (fun _ => ?_))
      | exact ih0 _ _ _ _
      | exact ih1 _ _ _ _ _
      | exact jobshellref45_form.mono _ _ _
      | exact LeO.none _
      | refine LeO.ite ?_ ?_
      | refine LeO.bind ?_ (fun _ => ?_)
theorem jobshellref45_Parse.mono : ∀ a0 k, LeO (jobshellref45_Parse.f k a0) (jobshellref45_Parse.f (k + 1) a0) := by
  intro a0 k
  obtain ⟨ih0, ih1⟩ := jobshellref45_Parse.mono_l k
  unfold jobshellref45_Parse.f
  repeat' first
      | (with_reducible exact ih0 _ _ _ _)
      | (with_reducible exact ih1 _ _ _ _ _)
      | (with_reducible exact jobshellref45_form.mono _ _ _)
      | (with_reducible exact LeO.refl _)
      | (with_reducible exact LeO.none _)
      | (with_reducible refine LeO.ite ?_ ?_)
      | (with_reducible refine LeO.bind ?_ (fun _ => ?_))
      | exact ih0 _ _ _ _
      | exact ih1 _ _ _ _ _
      | exact jobshellref45_form.mono _ _ _
      | exact LeO.none _
      | refine LeO.ite ?_ ?_
      | refine LeO.bind ?_ (fun _ => ?_)
set_option maxHeartbeats 8000000 in
set_option maxRecDepth 100000 in
theorem jobshellref45_Parse.calls (k : Nat) (a0 : ByteArray) (r1 : ByteArray) (r2 : Int) (w : World) (h : jobshellref45_Parse.f k a0 = some (r1, r2)) :
    Calls Tryd.prog 11 #[.string a0] w fun e w' => e = .returned (.tuple #[.string r1, .int .i64 r2]) ∧ Below w.heap.size w w' := by
  have HB := Aside0.mk (Below.refl w.heap.size w)
  have H : (jobshellref45_Parse.l0 k a0 (⟨#[]⟩ : ByteArray) 0 0) = some (r1, r2) := h
  clear h
  have H' := Aside0.mk H
  clear H
  go_enter Tryd.func11, Tryd.ntmps11
  go_wp2
  go_loopg [4, 5, 6] k (fun kq v4 v5 v6 w' => ∃ (x4_1 : ByteArray) (x5_1 : Int) (x6_1 : Int), v4 = .string x4_1 ∧ v5 = .int .i64 x5_1 ∧ v6 = .int .i64 x6_1 ∧ Aside0 (jobshellref45_Parse.l0 kq a0 x4_1 x5_1 x6_1 = some (r1, r2)) ∧ Aside0 (kq ≤ k) ∧ Aside0 (Below w.heap.size w w'))
  case atStart => exact ⟨((⟨#[]⟩ : ByteArray)), (0), (0), (by first | rfl | (simp; done) | (simp [*]; done)), (by first | rfl | (simp; done) | (simp [*]; done)), (by first | rfl | (simp; done) | (simp [*]; done)), H', ⟨Nat.le_refl _⟩, ⟨by repeat (first | (with_reducible first | exact HB.out | apply below_alloc | apply pw_below_drewN | apply below_drew1) | exact HB.out)⟩⟩
  case round =>
    clear H'
    try clear c1
    obtain ⟨x4_1, x5_1, x6_1, rfl, rfl, rfl, HA, HK1, HB⟩ := hrel
    cases gk with
    | zero => exact absurd HA.out (by simp [jobshellref45_Parse.l0])
    | succ k1 =>
      have H := HA.out
      clear HA
      simp only [jobshellref45_Parse.l0] at H
      have HC2 := Aside0.mk H
      clear H
      go_upto_region 3 with (fail)
      go_cut [19] (fun v19 wc => ∃ (kq : Nat) (x19_1 : Bool), v19 = .bool x19_1 ∧ Aside0 (jobshellref45_Parse.j1 kq a0 x4_1 x5_1 x6_1 x19_1 = some (r1, r2)) ∧ Aside0 (kq ≤ k1) ∧ Aside0 (Below w.heap.size w wc))
      case first =>
        have H := HC2.out
        clear HC2
        by_cases c3 : x6_1 ≤ (a0.size : Int)
        · rw [if_pos c3] at H
          have c3b0 : decide (x6_1 ≤ (a0.size : Int)) = true := decide_eq_true c3
          clear c3
          (first | rw [c3b0] | (simp only [i64_w, i32_w]; rw [c3b0]) | skip)
          have H' := Aside0.mk H
          clear H
          go_wp2
          go_meet
          case rel => exact ⟨_, (decide (x5_1 < (a0.size : Int))), (by first | rfl | (simp; done) | (simp [*]; done)), H', ⟨by have := HK1.out; first | omega | exact Nat.le_refl _⟩, ⟨by repeat (first | (with_reducible first | exact HB.out | apply below_alloc | apply pw_below_drewN | apply below_drew1) | exact HB.out)⟩⟩
        · rw [if_neg c3] at H
          have c3b0 : decide (x6_1 ≤ (a0.size : Int)) = false := decide_eq_false c3
          clear c3
          (first | rw [c3b0] | (simp only [i64_w, i32_w]; rw [c3b0]) | skip)
          have H' := Aside0.mk H
          clear H
          go_wp2
          go_meet
          case rel => exact ⟨_, (false), (by first | rfl | (simp; done) | (simp [*]; done)), H', ⟨by have := HK1.out; first | omega | exact Nat.le_refl _⟩, ⟨by repeat (first | (with_reducible first | exact HB.out | apply below_alloc | apply pw_below_drewN | apply below_drew1) | exact HB.out)⟩⟩
      case rest =>
        clear HC2
        try clear c1
        try clear p2
        try clear c3
        try clear c3b0
        obtain ⟨kq, x19_1, rfl, HA, HJ1, HB⟩ := hcut
        cases kq with
        | zero => exact absurd HA.out (by simp [jobshellref45_Parse.j1])
        | succ kj1 =>
          have H := HA.out
          clear HA
          simp only [jobshellref45_Parse.j1] at H
          by_cases c4 : x19_1 = true
          · subst c4
            have H1 : ((jobshellref45_form.f kj1 a0 x5_1).bind fun bt206 => (if bt206.2.2 = 0 then (if x4_1.size + bt206.1.size ≤ 9223372036854775807 then (jobshellref45_Parse.l0 kj1 a0 (x4_1 ++ bt206.1) bt206.2.1 (wrap64 (x6_1 + 1))) else (none)) else (some ((⟨#[]⟩ : ByteArray), bt206.2.2)))) = some (r1, r2) := by rw [if_pos rfl] at H; exact H
            clear H
            have H := H1
            clear H1
            replace H := Option.bind_eq_some_iff.mp H
            obtain ⟨⟨t206, t207, t208⟩, A50, H⟩ := H
            replace H : (if t208 = 0 then (if x4_1.size + t206.size ≤ 9223372036854775807 then (jobshellref45_Parse.l0 kj1 a0 (x4_1 ++ t206) t207 (wrap64 (x6_1 + 1))) else (none)) else (some ((⟨#[]⟩ : ByteArray), t208))) = some (r1, r2) := H
            have A5 := Aside0.mk A50
            clear A50
            by_cases c6 : t208 = 0
            · rw [if_pos c6] at H
              have c6b0 : (t208 == 0) = true := beq_iff_eq.mpr c6
              have c6b1 : (t208 != 0) = false := bne_eq_false_iff_eq.mpr c6
              clear c6
              by_cases c7 : x4_1.size + t206.size ≤ 9223372036854775807
              · rw [if_pos c7] at H
                have c7b0 := eq_true c7
                have c7b1 : decide (x4_1.size + t206.size ≤ 9223372036854775807) = true := decide_eq_true c7
                try have c7b2 : (9223372036854775807 < x4_1.size + t206.size) = False := eq_false (Nat.not_lt.2 c7)
                have H' := Aside0.mk H
                clear H
                go_wp2_with (first | ((with_reducible refine gate_callee (f := 28) rfl ?_); refine goesL_ (some 25) rfl rfl Tryd.func28 (by kernel_rfl) rfl #[.string a0, .int .i64 x5_1] rfl (by (try simp only [List.map_toArray, List.map_cons, List.map_nil]); first | done | rfl | (simp only [List.length_drop, List.length_take]; rfl)) ?_; (with_reducible refine (jobshellref45_form.calls kj1 a0 x5_1 t206 t207 t208 _ A5.out).mono ?_); rintro e w8 ⟨rfl, hb⟩; refine ⟨_, rfl, ?_⟩; have n0_ := Aside0.mk (below_step (by repeat (first | (with_reducible first | exact HB.out | apply below_alloc | apply pw_below_drewN | apply below_drew1) | exact HB.out)) hb); clear HB; have HB := n0_; clear n0_; (try clear hb); (try clear hb2); (try clear hk); (try clear hi)))
                go_roundg kj1
                case measure => have := HK1.out; have := HJ1.out; omega
                case rel => exact ⟨(x4_1 ++ t206), (t207), (wrap64 (x6_1 + 1)), (by first | rfl | (simp; done) | (simp [*]; done)), (by first | rfl | (simp; done) | (simp [*]; done)), (by first | rfl | (simp; done) | (simp [*]; done)), H', ⟨by have := HK1.out; have := HJ1.out; omega⟩, ⟨by repeat (first | (with_reducible first | exact HB.out | apply below_alloc | apply pw_below_drewN | apply below_drew1) | exact HB.out)⟩⟩
              · rw [if_neg c7] at H
                exact absurd H (by simp)
            · rw [if_neg c6] at H
              have c6b0 : (t208 == 0) = false := beq_eq_false_iff_ne.mpr c6
              have c6b1 : (t208 != 0) = true := bne_iff_ne.mpr c6
              simp only [Option.some.injEq, Prod.mk.injEq] at H
              obtain ⟨rfl, rfl⟩ := H
              go_wp2_with (first | ((with_reducible refine gate_callee (f := 28) rfl ?_); refine goesL_ (some 25) rfl rfl Tryd.func28 (by kernel_rfl) rfl #[.string a0, .int .i64 x5_1] rfl (by (try simp only [List.map_toArray, List.map_cons, List.map_nil]); first | done | rfl | (simp only [List.length_drop, List.length_take]; rfl)) ?_; (with_reducible refine (jobshellref45_form.calls kj1 a0 x5_1 t206 t207 t208 _ A5.out).mono ?_); rintro e w9 ⟨rfl, hb⟩; refine ⟨_, rfl, ?_⟩; have n0_ := Aside0.mk (below_step (by repeat (first | (with_reducible first | exact HB.out | apply below_alloc | apply pw_below_drewN | apply below_drew1) | exact HB.out)) hb); clear HB; have HB := n0_; clear n0_; (try clear hb); (try clear hb2); (try clear hk); (try clear hi)))
              go_ret2
              exact ⟨by first | rfl | (simp [errW_none, errW_some] <;> rfl) | (simp [*, errW_none, errW_some] <;> rfl), by repeat (first | (with_reducible first | exact HB.out | apply below_alloc | apply pw_below_drewN | apply below_drew1) | exact HB.out)⟩
          · replace c4 := Bool.eq_false_iff.mpr c4
            subst c4
            have H1 : (if (x4_1.size : Int) > 16 then (some ((⟨#[]⟩ : ByteArray), 3)) else (some (x4_1, 0))) = some (r1, r2) := by rw [if_neg (show ¬ (false = true) by decide)] at H; exact H
            clear H
            have H := H1
            clear H1
            by_cases c10 : (x4_1.size : Int) > 16
            · rw [if_pos c10] at H
              have c10b0 : decide (16 < (x4_1.size : Int)) = true := decide_eq_true c10
              have c10b1 : decide (16 < x4_1.size) = true := decide_eq_true (by omega)
              clear c10
              simp only [Option.some.injEq, Prod.mk.injEq] at H
              obtain ⟨rfl, rfl⟩ := H
              go_wp2
              go_ret2
              exact ⟨by first | rfl | (simp [errW_none, errW_some] <;> rfl) | (simp [*, errW_none, errW_some] <;> rfl), by repeat (first | (with_reducible first | exact HB.out | apply below_alloc | apply pw_below_drewN | apply below_drew1) | exact HB.out)⟩
            · rw [if_neg c10] at H
              have c10b0 : decide (16 < (x4_1.size : Int)) = false := decide_eq_false c10
              have c10b1 : decide (16 < x4_1.size) = false := decide_eq_false (by omega)
              clear c10
              simp only [Option.some.injEq, Prod.mk.injEq] at H
              obtain ⟨rfl, rfl⟩ := H
              go_wp2
              go_ret2
              exact ⟨by first | rfl | (simp [errW_none, errW_some] <;> rfl) | (simp [*, errW_none, errW_some] <;> rfl), by repeat (first | (with_reducible first | exact HB.out | apply below_alloc | apply pw_below_drewN | apply below_drew1) | exact HB.out)⟩

/-! ### jobshelllaw45_KeymapParses: function 3 -/
def jobshelllaw45_KeymapParses.f (k : Nat) (a0 : ByteArray) : Option (Bool) := if (a0.size : Int) > 500 then ((jobshelllaw45_awake.f k).bind fun t209 => (some t209)) else ((keymap_Parse.f k a0).bind fun bt210 => ((jobshellref45_Parse.f k a0).bind fun bt212 => (if bt210.1.toList = bt212.1.toList then (if bt210.2 = bt212.2 then ((jobshelllaw45_awake.f k).bind fun t214 => (some t214)) else (some false)) else (some false))))
theorem jobshelllaw45_KeymapParses.mono : ∀ a0 k, LeO (jobshelllaw45_KeymapParses.f k a0) (jobshelllaw45_KeymapParses.f (k + 1) a0) := by
  intro a0 k
  unfold jobshelllaw45_KeymapParses.f
  repeat' first
      | (with_reducible exact jobshelllaw45_awake.mono _)
      | (with_reducible exact jobshellref45_Parse.mono _ _)
      | (with_reducible exact keymap_Parse.mono _ _)
      | (with_reducible exact LeO.refl _)
      | (with_reducible exact LeO.none _)
      | (with_reducible refine LeO.ite ?_ ?_)
      | (with_reducible refine LeO.bind ?_ (fun _ => ?_))
      | exact jobshelllaw45_awake.mono _
      | exact jobshellref45_Parse.mono _ _
      | exact keymap_Parse.mono _ _
      | exact LeO.none _
      | refine LeO.ite ?_ ?_
      | refine LeO.bind ?_ (fun _ => ?_)
set_option maxHeartbeats 8000000 in
set_option maxRecDepth 100000 in
theorem jobshelllaw45_KeymapParses.calls (k : Nat) (a0 : ByteArray) (r : Bool) (w : World) (hG : Laid w) (h : jobshelllaw45_KeymapParses.f k a0 = some r) :
    Calls Tryd.prog 3 #[.string a0] w fun e w' => e = .returned (.bool r) ∧ Below w.heap.size w w' := by
  have HB := Aside0.mk (Below.refl w.heap.size w)
  have HG := Aside0.mk hG
  clear hG
  have H : (if (a0.size : Int) > 500 then ((jobshelllaw45_awake.f k).bind fun t209 => (some t209)) else ((keymap_Parse.f k a0).bind fun bt210 => ((jobshellref45_Parse.f k a0).bind fun bt212 => (if bt210.1.toList = bt212.1.toList then (if bt210.2 = bt212.2 then ((jobshelllaw45_awake.f k).bind fun t214 => (some t214)) else (some false)) else (some false))))) = some r := h
  clear h
  by_cases c2 : (a0.size : Int) > 500
  · rw [if_pos c2] at H
    have c2b0 : decide (500 < (a0.size : Int)) = true := decide_eq_true c2
    have c2b1 : decide (500 < a0.size) = true := decide_eq_true (by omega)
    clear c2
    replace H := Option.bind_eq_some_iff.mp H
    obtain ⟨t209, A30, H⟩ := H
    replace H : (some t209) = some r := H
    have A3 := Aside0.mk A30
    clear A30
    obtain rfl := Option.some.inj H
    go_enter Tryd.func3, Tryd.ntmps3
    go_wp2_with (first | ((with_reducible refine gate_callee (f := 9) rfl ?_); refine goesL_ (some 10) rfl rfl Tryd.func9 (by kernel_rfl) rfl #[] rfl (by (try simp only [List.map_toArray, List.map_cons, List.map_nil]); first | done | rfl | (simp only [List.length_drop, List.length_take]; rfl)) ?_; (with_reducible refine (jobshelllaw45_awake.calls k  t209 _ ?side1 A3.out).mono ?_); (case side1 => exact HG.out.step (by repeat (first | (with_reducible first | exact HB.out | apply below_alloc | apply pw_below_drewN | apply below_drew1) | exact HB.out))); rintro e w4 ⟨rfl, hb⟩; refine ⟨_, rfl, ?_⟩; have n0_ := Aside0.mk (below_step (by repeat (first | (with_reducible first | exact HB.out | apply below_alloc | apply pw_below_drewN | apply below_drew1) | exact HB.out)) hb); clear HB; have HB := n0_; clear n0_; (try clear hb); (try clear hb2); (try clear hk); (try clear hi)))
    go_ret
    exact ⟨by first | rfl | (simp [errW_none, errW_some] <;> rfl) | (simp [*, errW_none, errW_some] <;> rfl), by repeat (first | (with_reducible first | exact HB.out | apply below_alloc | apply pw_below_drewN | apply below_drew1) | exact HB.out)⟩
  · rw [if_neg c2] at H
    have c2b0 : decide (500 < (a0.size : Int)) = false := decide_eq_false c2
    have c2b1 : decide (500 < a0.size) = false := decide_eq_false (by omega)
    clear c2
    replace H := Option.bind_eq_some_iff.mp H
    obtain ⟨⟨t210, t211⟩, A50, H⟩ := H
    replace H : ((jobshellref45_Parse.f k a0).bind fun bt212 => (if t210.toList = bt212.1.toList then (if t211 = bt212.2 then ((jobshelllaw45_awake.f k).bind fun t214 => (some t214)) else (some false)) else (some false))) = some r := H
    have A5 := Aside0.mk A50
    clear A50
    replace H := Option.bind_eq_some_iff.mp H
    obtain ⟨⟨t212, t213⟩, A60, H⟩ := H
    replace H : (if t210.toList = t212.toList then (if t211 = t213 then ((jobshelllaw45_awake.f k).bind fun t214 => (some t214)) else (some false)) else (some false)) = some r := H
    have A6 := Aside0.mk A60
    clear A60
    by_cases c7 : t210.toList = t212.toList
    · rw [if_pos c7] at H
      have c7b0 : (t210.toList == t212.toList) = true := beq_iff_eq.mpr c7
      have c7b1 : (t210.toList != t212.toList) = false := bne_eq_false_iff_eq.mpr c7
      clear c7
      by_cases c8 : t211 = t213
      · rw [if_pos c8] at H
        have c8b0 : (t211 == t213) = true := beq_iff_eq.mpr c8
        have c8b1 : (t211 != t213) = false := bne_eq_false_iff_eq.mpr c8
        clear c8
        replace H := Option.bind_eq_some_iff.mp H
        obtain ⟨t214, A90, H⟩ := H
        replace H : (some t214) = some r := H
        have A9 := Aside0.mk A90
        clear A90
        obtain rfl := Option.some.inj H
        go_enter Tryd.func3, Tryd.ntmps3
        go_wp2_with (first | ((with_reducible refine gate_callee (f := 10) rfl ?_); refine goesL_ (some 13) rfl rfl Tryd.func10 (by kernel_rfl) rfl #[.string a0] rfl (by (try simp only [List.map_toArray, List.map_cons, List.map_nil]); first | done | rfl | (simp only [List.length_drop, List.length_take]; rfl)) ?_; (with_reducible refine (keymap_Parse.calls k a0 t210 t211 _ ?side1 A5.out).mono ?_); (case side1 => exact HG.out.step (by repeat (first | (with_reducible first | exact HB.out | apply below_alloc | apply pw_below_drewN | apply below_drew1) | exact HB.out))); rintro e w10 ⟨rfl, hb⟩; refine ⟨_, rfl, ?_⟩; have n0_ := Aside0.mk (below_step (by repeat (first | (with_reducible first | exact HB.out | apply below_alloc | apply pw_below_drewN | apply below_drew1) | exact HB.out)) hb); clear HB; have HB := n0_; clear n0_; (try clear hb); (try clear hb2); (try clear hk); (try clear hi)) | ((with_reducible refine gate_callee (f := 11) rfl ?_); refine goesL_ (some 18) rfl rfl Tryd.func11 (by kernel_rfl) rfl #[.string a0] rfl (by (try simp only [List.map_toArray, List.map_cons, List.map_nil]); first | done | rfl | (simp only [List.length_drop, List.length_take]; rfl)) ?_; (with_reducible refine (jobshellref45_Parse.calls k a0 t212 t213 _ A6.out).mono ?_); rintro e w11 ⟨rfl, hb⟩; refine ⟨_, rfl, ?_⟩; have n0_ := Aside0.mk (below_step (by repeat (first | (with_reducible first | exact HB.out | apply below_alloc | apply pw_below_drewN | apply below_drew1) | exact HB.out)) hb); clear HB; have HB := n0_; clear n0_; (try clear hb); (try clear hb2); (try clear hk); (try clear hi)) | (go_at_call 9; (with_reducible refine (jobshelllaw45_awake.calls k  t214 _ ?side1 A9.out).mono ?_); (case side1 => exact HG.out.step (by repeat (first | (with_reducible first | exact HB.out | apply below_alloc | apply pw_below_drewN | apply below_drew1) | exact HB.out))); rintro e w12 ⟨rfl, hb⟩; have n0_ := Aside0.mk (below_step (by repeat (first | (with_reducible first | exact HB.out | apply below_alloc | apply pw_below_drewN | apply below_drew1) | exact HB.out)) hb); clear HB; have HB := n0_; clear n0_; (try clear hb); (try clear hb2); (try clear hk); (try clear hi)))
        go_ret
        exact ⟨by first | rfl | (simp [errW_none, errW_some] <;> rfl) | (simp [*, errW_none, errW_some] <;> rfl), by repeat (first | (with_reducible first | exact HB.out | apply below_alloc | apply pw_below_drewN | apply below_drew1) | exact HB.out)⟩
      · rw [if_neg c8] at H
        have c8b0 : (t211 == t213) = false := beq_eq_false_iff_ne.mpr c8
        have c8b1 : (t211 != t213) = true := bne_iff_ne.mpr c8
        obtain rfl := Option.some.inj H
        go_enter Tryd.func3, Tryd.ntmps3
        go_wp2_with (first | ((with_reducible refine gate_callee (f := 10) rfl ?_); refine goesL_ (some 13) rfl rfl Tryd.func10 (by kernel_rfl) rfl #[.string a0] rfl (by (try simp only [List.map_toArray, List.map_cons, List.map_nil]); first | done | rfl | (simp only [List.length_drop, List.length_take]; rfl)) ?_; (with_reducible refine (keymap_Parse.calls k a0 t210 t211 _ ?side1 A5.out).mono ?_); (case side1 => exact HG.out.step (by repeat (first | (with_reducible first | exact HB.out | apply below_alloc | apply pw_below_drewN | apply below_drew1) | exact HB.out))); rintro e w13 ⟨rfl, hb⟩; refine ⟨_, rfl, ?_⟩; have n0_ := Aside0.mk (below_step (by repeat (first | (with_reducible first | exact HB.out | apply below_alloc | apply pw_below_drewN | apply below_drew1) | exact HB.out)) hb); clear HB; have HB := n0_; clear n0_; (try clear hb); (try clear hb2); (try clear hk); (try clear hi)) | ((with_reducible refine gate_callee (f := 11) rfl ?_); refine goesL_ (some 18) rfl rfl Tryd.func11 (by kernel_rfl) rfl #[.string a0] rfl (by (try simp only [List.map_toArray, List.map_cons, List.map_nil]); first | done | rfl | (simp only [List.length_drop, List.length_take]; rfl)) ?_; (with_reducible refine (jobshellref45_Parse.calls k a0 t212 t213 _ A6.out).mono ?_); rintro e w14 ⟨rfl, hb⟩; refine ⟨_, rfl, ?_⟩; have n0_ := Aside0.mk (below_step (by repeat (first | (with_reducible first | exact HB.out | apply below_alloc | apply pw_below_drewN | apply below_drew1) | exact HB.out)) hb); clear HB; have HB := n0_; clear n0_; (try clear hb); (try clear hb2); (try clear hk); (try clear hi)))
        go_ret
        exact ⟨by first | rfl | (simp [errW_none, errW_some] <;> rfl) | (simp [*, errW_none, errW_some] <;> rfl), by repeat (first | (with_reducible first | exact HB.out | apply below_alloc | apply pw_below_drewN | apply below_drew1) | exact HB.out)⟩
    · rw [if_neg c7] at H
      have c7b0 : (t210.toList == t212.toList) = false := beq_eq_false_iff_ne.mpr c7
      have c7b1 : (t210.toList != t212.toList) = true := bne_iff_ne.mpr c7
      obtain rfl := Option.some.inj H
      go_enter Tryd.func3, Tryd.ntmps3
      go_wp2_with (first | ((with_reducible refine gate_callee (f := 10) rfl ?_); refine goesL_ (some 13) rfl rfl Tryd.func10 (by kernel_rfl) rfl #[.string a0] rfl (by (try simp only [List.map_toArray, List.map_cons, List.map_nil]); first | done | rfl | (simp only [List.length_drop, List.length_take]; rfl)) ?_; (with_reducible refine (keymap_Parse.calls k a0 t210 t211 _ ?side1 A5.out).mono ?_); (case side1 => exact HG.out.step (by repeat (first | (with_reducible first | exact HB.out | apply below_alloc | apply pw_below_drewN | apply below_drew1) | exact HB.out))); rintro e w15 ⟨rfl, hb⟩; refine ⟨_, rfl, ?_⟩; have n0_ := Aside0.mk (below_step (by repeat (first | (with_reducible first | exact HB.out | apply below_alloc | apply pw_below_drewN | apply below_drew1) | exact HB.out)) hb); clear HB; have HB := n0_; clear n0_; (try clear hb); (try clear hb2); (try clear hk); (try clear hi)) | ((with_reducible refine gate_callee (f := 11) rfl ?_); refine goesL_ (some 18) rfl rfl Tryd.func11 (by kernel_rfl) rfl #[.string a0] rfl (by (try simp only [List.map_toArray, List.map_cons, List.map_nil]); first | done | rfl | (simp only [List.length_drop, List.length_take]; rfl)) ?_; (with_reducible refine (jobshellref45_Parse.calls k a0 t212 t213 _ A6.out).mono ?_); rintro e w16 ⟨rfl, hb⟩; refine ⟨_, rfl, ?_⟩; have n0_ := Aside0.mk (below_step (by repeat (first | (with_reducible first | exact HB.out | apply below_alloc | apply pw_below_drewN | apply below_drew1) | exact HB.out)) hb); clear HB; have HB := n0_; clear n0_; (try clear hb); (try clear hb2); (try clear hk); (try clear hi)))
      go_ret
      exact ⟨by first | rfl | (simp [errW_none, errW_some] <;> rfl) | (simp [*, errW_none, errW_some] <;> rfl), by repeat (first | (with_reducible first | exact HB.out | apply below_alloc | apply pw_below_drewN | apply below_drew1) | exact HB.out)⟩

/-- THE ONE PURE STATEMENT of jobshelllaw45_KeymapParses: yours. -/
def jobshelllaw45_KeymapParses.Pure : Prop := ∀ (a0 : ByteArray), a0.size ≤ 140737488351232 → ∃ k, jobshelllaw45_KeymapParses.f k a0 = some true
theorem jobshelllaw45_KeymapParses.walk (P : jobshelllaw45_KeymapParses.Pure) (a0 : ByteArray) (w : World) (w0 : a0.size ≤ 140737488351232) (hG : Laid w) :
    Calls Tryd.prog 3 #[.string a0] w fun e w' => e = .returned (.bool true) ∧ Below w.heap.size w w' := by
  obtain ⟨k, h⟩ := P a0 w0
  refine (jobshelllaw45_KeymapParses.calls k a0 true w hG h).mono ?_
  rintro e w' ⟨rfl, hd⟩
  exact ⟨rfl, hd⟩

/-! ### jobshellref45_Show: function 13 -/
def jobshellref45_Show.l0 : Nat → ByteArray → ByteArray → Int → Option (ByteArray)
  | 0, _, _, _ => none
  | k + 1, x0, x3, x4 => if x4 < (x0.size : Int) then (if 0 ≤ x4 then ((jobshellref45_show.f (bt x0 x4)).bind fun t215 => (if x3.size + t215.size ≤ 9223372036854775807 then (jobshellref45_Show.l0 k x0 (x3 ++ t215) (wrap64 (x4 + 1))) else (none))) else (none)) else (some x3)
def jobshellref45_Show.f (k : Nat) (a0 : ByteArray) : Option (ByteArray) := jobshellref45_Show.l0 k a0 (⟨#[]⟩ : ByteArray) 0
theorem jobshellref45_Show.mono_l : ∀ k, (∀ y0 y1 y2, LeO (jobshellref45_Show.l0 k y0 y1 y2) (jobshellref45_Show.l0 (k + 1) y0 y1 y2))
  | 0 => fun _ _ _ r h => by simp [jobshellref45_Show.l0] at h
  | k + 1 => by
    have ih0 := jobshellref45_Show.mono_l k
    · intro y0 y1 y2
      unfold jobshellref45_Show.l0
      repeat' first
      | (with_reducible exact ih0 _ _ _)
      | (with_reducible exact LeO.refl _)
      | (with_reducible exact LeO.none _)
      | (with_reducible refine LeO.ite ?_ ?_)
      | (with_reducible refine LeO.bind ?_ (fun _ => ?_))
      | exact ih0 _ _ _
      | exact LeO.none _
      | refine LeO.ite ?_ ?_
      | refine LeO.bind ?_ (fun _ => ?_)
theorem jobshellref45_Show.mono : ∀ a0 k, LeO (jobshellref45_Show.f k a0) (jobshellref45_Show.f (k + 1) a0) := by
  intro a0 k
  have ih0 := jobshellref45_Show.mono_l k
  unfold jobshellref45_Show.f
  repeat' first
      | (with_reducible exact ih0 _ _ _)
      | (with_reducible exact LeO.refl _)
      | (with_reducible exact LeO.none _)
      | (with_reducible refine LeO.ite ?_ ?_)
      | (with_reducible refine LeO.bind ?_ (fun _ => ?_))
      | exact ih0 _ _ _
      | exact LeO.none _
      | refine LeO.ite ?_ ?_
      | refine LeO.bind ?_ (fun _ => ?_)
set_option maxHeartbeats 8000000 in
set_option maxRecDepth 100000 in
theorem jobshellref45_Show.calls (k : Nat) (a0 : ByteArray) (r : ByteArray) (w : World) (h : jobshellref45_Show.f k a0 = some r) :
    Calls Tryd.prog 13 #[.string a0] w fun e w' => e = .returned (.string r) ∧ Below w.heap.size w w' := by
  have HB := Aside0.mk (Below.refl w.heap.size w)
  have H : (jobshellref45_Show.l0 k a0 (⟨#[]⟩ : ByteArray) 0) = some r := h
  clear h
  have H' := Aside0.mk H
  clear H
  go_enter Tryd.func13, Tryd.ntmps13
  go_wp2
  go_loopg [3, 4] k (fun kq v3 v4 w' => ∃ (x3_1 : ByteArray) (x4_1 : Int), v3 = .string x3_1 ∧ v4 = .int .i64 x4_1 ∧ Aside0 (jobshellref45_Show.l0 kq a0 x3_1 x4_1 = some r) ∧ Aside0 (kq ≤ k) ∧ Aside0 (Below w.heap.size w w'))
  case atStart => exact ⟨((⟨#[]⟩ : ByteArray)), (0), (by first | rfl | (simp; done) | (simp [*]; done)), (by first | rfl | (simp; done) | (simp [*]; done)), H', ⟨Nat.le_refl _⟩, ⟨by repeat (first | (with_reducible first | exact HB.out | apply below_alloc | apply pw_below_drewN | apply below_drew1) | exact HB.out)⟩⟩
  case round =>
    clear H'
    try clear c1
    obtain ⟨x3_1, x4_1, rfl, rfl, HA, HK1, HB⟩ := hrel
    cases gk with
    | zero => exact absurd HA.out (by simp [jobshellref45_Show.l0])
    | succ k1 =>
      have H := HA.out
      clear HA
      simp only [jobshellref45_Show.l0] at H
      by_cases c2 : x4_1 < (a0.size : Int)
      · rw [if_pos c2] at H
        have c2b0 : decide (x4_1 < (a0.size : Int)) = true := decide_eq_true c2
        clear c2
        by_cases c3 : 0 ≤ x4_1
        · rw [if_pos c3] at H
          have c3b0 : decide (0 ≤ x4_1) = true := decide_eq_true c3
          clear c3
          replace H := Option.bind_eq_some_iff.mp H
          obtain ⟨t215, A50, H⟩ := H
          replace H : (if x3_1.size + t215.size ≤ 9223372036854775807 then (jobshellref45_Show.l0 k1 a0 (x3_1 ++ t215) (wrap64 (x4_1 + 1))) else (none)) = some r := H
          have A5 := Aside0.mk A50
          clear A50
          by_cases c6 : x3_1.size + t215.size ≤ 9223372036854775807
          · rw [if_pos c6] at H
            have c6b0 := eq_true c6
            have c6b1 : decide (x3_1.size + t215.size ≤ 9223372036854775807) = true := decide_eq_true c6
            try have c6b2 : (9223372036854775807 < x3_1.size + t215.size) = False := eq_false (Nat.not_lt.2 c6)
            have H' := Aside0.mk H
            clear H
            have p4 : 0 ≤ (x4_1 : Int) := of_decide_eq_true (by first | (with_reducible assumption) | assumption)
            have q4 : x4_1 < (a0.size : Int) := of_decide_eq_true (by first | (with_reducible assumption) | assumption)
            have hx4 := bt_at a0 x4_1
            replace p4 := eq_true p4
            replace q4 := eq_true q4
            go_wp2_with (first | ((with_reducible refine gate_callee (f := 30) rfl ?_); refine goesL_ (some 15) rfl rfl Tryd.func30 (by kernel_rfl) rfl #[.int .u8 (bt a0 x4_1)] rfl (by (try simp only [List.map_toArray, List.map_cons, List.map_nil]); first | done | rfl | (simp only [List.length_drop, List.length_take]; rfl)) ?_; (with_reducible refine (jobshellref45_show.calls (bt a0 x4_1) t215 _ A5.out).mono ?_); rintro e w7 ⟨rfl, hb⟩; refine ⟨_, rfl, ?_⟩; have n0_ := Aside0.mk (below_step (by repeat (first | (with_reducible first | exact HB.out | apply below_alloc | apply pw_below_drewN | apply below_drew1) | exact HB.out)) hb); clear HB; have HB := n0_; clear n0_; (try clear hb); (try clear hb2); (try clear hk); (try clear hi)))
            go_roundg k1
            case measure => have := HK1.out; omega
            case rel => exact ⟨(x3_1 ++ t215), (wrap64 (x4_1 + 1)), (by first | rfl | (simp; done) | (simp [*]; done)), (by first | rfl | (simp; done) | (simp [*]; done)), H', ⟨by have := HK1.out; omega⟩, ⟨by repeat (first | (with_reducible first | exact HB.out | apply below_alloc | apply pw_below_drewN | apply below_drew1) | exact HB.out)⟩⟩
          · rw [if_neg c6] at H
            exact absurd H (by simp)
        · rw [if_neg c3] at H
          exact absurd H (by simp)
      · rw [if_neg c2] at H
        have c2b0 : decide (x4_1 < (a0.size : Int)) = false := decide_eq_false c2
        clear c2
        obtain rfl := Option.some.inj H
        go_wp2
        go_ret
        exact ⟨by first | rfl | (simp [errW_none, errW_some] <;> rfl) | (simp [*, errW_none, errW_some] <;> rfl), by repeat (first | (with_reducible first | exact HB.out | apply below_alloc | apply pw_below_drewN | apply below_drew1) | exact HB.out)⟩

/-! ### jobshelllaw45_KeymapShows: function 4 -/
def jobshelllaw45_KeymapShows.l0 : Nat → ByteArray → ByteArray → Int → Option (Bool)
  | 0, _, _, _ => none
  | k + 1, x0, x3, x4 => if x4 < (x3.size : Int) then (if 0 ≤ x4 then (if (bt x3 x4) < 32 then (some false) else (if (bt x3 x4) > 126 then (some false) else (jobshelllaw45_KeymapShows.l0 k x0 x3 (wrap64 (x4 + 1))))) else (none)) else ((keymap_Parse.f k x3).bind fun bt218 => (if (x0.size : Int) > 16 then ((jobshellref45_Show.f k x0).bind fun t220 => (if x3.toList = t220.toList then (if bt218.1.toList = ([] : List UInt8) then (if bt218.2 = 3 then ((jobshelllaw45_awake.f k).bind fun t221 => (some t221)) else (some false)) else (some false)) else (some false))) else ((jobshellref45_Show.f k x0).bind fun t222 => (if x3.toList = t222.toList then (if bt218.1.toList = x0.toList then (if bt218.2 = 0 then ((jobshelllaw45_awake.f k).bind fun t223 => (some t223)) else (some false)) else (some false)) else (some false)))))
def jobshelllaw45_KeymapShows.f (k : Nat) (a0 : ByteArray) : Option (Bool) := if (a0.size : Int) > 300 then ((jobshelllaw45_awake.f k).bind fun t216 => (some t216)) else ((keymap_Show.f k a0).bind fun t217 => (jobshelllaw45_KeymapShows.l0 k a0 t217 0))
theorem jobshelllaw45_KeymapShows.mono_l : ∀ k, (∀ y0 y1 y2, LeO (jobshelllaw45_KeymapShows.l0 k y0 y1 y2) (jobshelllaw45_KeymapShows.l0 (k + 1) y0 y1 y2))
  | 0 => fun _ _ _ r h => by simp [jobshelllaw45_KeymapShows.l0] at h
  | k + 1 => by
    have ih0 := jobshelllaw45_KeymapShows.mono_l k
    · intro y0 y1 y2
      unfold jobshelllaw45_KeymapShows.l0
      repeat' first
      | (with_reducible exact ih0 _ _ _)
      | (with_reducible exact jobshelllaw45_awake.mono _)
      | (with_reducible exact jobshellref45_Show.mono _ _)
      | (with_reducible exact keymap_Parse.mono _ _)
      | (with_reducible exact keymap_Show.mono _ _)
      | (with_reducible exact LeO.refl _)
      | (with_reducible exact LeO.none _)
      | (with_reducible refine LeO.ite ?_ ?_)
      | (with_reducible refine LeO.bind ?_ (fun _ => ?_))
      | exact ih0 _ _ _
      | exact jobshelllaw45_awake.mono _
      | exact jobshellref45_Show.mono _ _
      | exact keymap_Parse.mono _ _
      | exact keymap_Show.mono _ _
      | exact LeO.none _
      | refine LeO.ite ?_ ?_
      | refine LeO.bind ?_ (fun _ => ?_)
theorem jobshelllaw45_KeymapShows.mono : ∀ a0 k, LeO (jobshelllaw45_KeymapShows.f k a0) (jobshelllaw45_KeymapShows.f (k + 1) a0) := by
  intro a0 k
  have ih0 := jobshelllaw45_KeymapShows.mono_l k
  unfold jobshelllaw45_KeymapShows.f
  repeat' first
      | (with_reducible exact ih0 _ _ _)
      | (with_reducible exact jobshelllaw45_awake.mono _)
      | (with_reducible exact jobshellref45_Show.mono _ _)
      | (with_reducible exact keymap_Parse.mono _ _)
      | (with_reducible exact keymap_Show.mono _ _)
      | (with_reducible exact LeO.refl _)
      | (with_reducible exact LeO.none _)
      | (with_reducible refine LeO.ite ?_ ?_)
      | (with_reducible refine LeO.bind ?_ (fun _ => ?_))
      | exact ih0 _ _ _
      | exact jobshelllaw45_awake.mono _
      | exact jobshellref45_Show.mono _ _
      | exact keymap_Parse.mono _ _
      | exact keymap_Show.mono _ _
      | exact LeO.none _
      | refine LeO.ite ?_ ?_
      | refine LeO.bind ?_ (fun _ => ?_)
set_option maxHeartbeats 8000000 in
set_option maxRecDepth 100000 in
theorem jobshelllaw45_KeymapShows.calls (k : Nat) (a0 : ByteArray) (r : Bool) (w : World) (hG : Laid w) (h : jobshelllaw45_KeymapShows.f k a0 = some r) :
    Calls Tryd.prog 4 #[.string a0] w fun e w' => e = .returned (.bool r) ∧ Below w.heap.size w w' := by
  have HB := Aside0.mk (Below.refl w.heap.size w)
  have HG := Aside0.mk hG
  clear hG
  have H : (if (a0.size : Int) > 300 then ((jobshelllaw45_awake.f k).bind fun t216 => (some t216)) else ((keymap_Show.f k a0).bind fun t217 => (jobshelllaw45_KeymapShows.l0 k a0 t217 0))) = some r := h
  clear h
  by_cases c2 : (a0.size : Int) > 300
  · rw [if_pos c2] at H
    have c2b0 : decide (300 < (a0.size : Int)) = true := decide_eq_true c2
    have c2b1 : decide (300 < a0.size) = true := decide_eq_true (by omega)
    clear c2
    replace H := Option.bind_eq_some_iff.mp H
    obtain ⟨t216, A30, H⟩ := H
    replace H : (some t216) = some r := H
    have A3 := Aside0.mk A30
    clear A30
    obtain rfl := Option.some.inj H
    go_enter Tryd.func4, Tryd.ntmps4
    go_wp2_with (first | ((with_reducible refine gate_callee (f := 9) rfl ?_); refine goesL_ (some 10) rfl rfl Tryd.func9 (by kernel_rfl) rfl #[] rfl (by (try simp only [List.map_toArray, List.map_cons, List.map_nil]); first | done | rfl | (simp only [List.length_drop, List.length_take]; rfl)) ?_; (with_reducible refine (jobshelllaw45_awake.calls k  t216 _ ?side1 A3.out).mono ?_); (case side1 => exact HG.out.step (by repeat (first | (with_reducible first | exact HB.out | apply below_alloc | apply pw_below_drewN | apply below_drew1) | exact HB.out))); rintro e w4 ⟨rfl, hb⟩; refine ⟨_, rfl, ?_⟩; have n0_ := Aside0.mk (below_step (by repeat (first | (with_reducible first | exact HB.out | apply below_alloc | apply pw_below_drewN | apply below_drew1) | exact HB.out)) hb); clear HB; have HB := n0_; clear n0_; (try clear hb); (try clear hb2); (try clear hk); (try clear hi)))
    go_ret
    exact ⟨by first | rfl | (simp [errW_none, errW_some] <;> rfl) | (simp [*, errW_none, errW_some] <;> rfl), by repeat (first | (with_reducible first | exact HB.out | apply below_alloc | apply pw_below_drewN | apply below_drew1) | exact HB.out)⟩
  · rw [if_neg c2] at H
    have c2b0 : decide (300 < (a0.size : Int)) = false := decide_eq_false c2
    have c2b1 : decide (300 < a0.size) = false := decide_eq_false (by omega)
    clear c2
    replace H := Option.bind_eq_some_iff.mp H
    obtain ⟨t217, A50, H⟩ := H
    replace H : (jobshelllaw45_KeymapShows.l0 k a0 t217 0) = some r := H
    have A5 := Aside0.mk A50
    clear A50
    have H' := Aside0.mk H
    clear H
    go_enter Tryd.func4, Tryd.ntmps4
    go_wp2_with (first | ((with_reducible refine gate_callee (f := 12) rfl ?_); refine goesL_ (some 12) rfl rfl Tryd.func12 (by kernel_rfl) rfl #[.string a0] rfl (by (try simp only [List.map_toArray, List.map_cons, List.map_nil]); first | done | rfl | (simp only [List.length_drop, List.length_take]; rfl)) ?_; (with_reducible refine (keymap_Show.calls k a0 t217 _ ?side1 A5.out).mono ?_); (case side1 => exact HG.out.step (by repeat (first | (with_reducible first | exact HB.out | apply below_alloc | apply pw_below_drewN | apply below_drew1) | exact HB.out))); rintro e w6 ⟨rfl, hb⟩; refine ⟨_, rfl, ?_⟩; have n0_ := Aside0.mk (below_step (by repeat (first | (with_reducible first | exact HB.out | apply below_alloc | apply pw_below_drewN | apply below_drew1) | exact HB.out)) hb); clear HB; have HB := n0_; clear n0_; (try clear hb); (try clear hb2); (try clear hk); (try clear hi)))
    go_loopg [4] k (fun kq v4 w' => ∃ (x4_1 : Int), v4 = .int .i64 x4_1 ∧ Aside0 (jobshelllaw45_KeymapShows.l0 kq a0 t217 x4_1 = some r) ∧ Aside0 (kq ≤ k) ∧ Aside0 (Below w.heap.size w w'))
    case atStart => exact ⟨(0), (by first | rfl | (simp; done) | (simp [*]; done)), H', ⟨Nat.le_refl _⟩, ⟨by repeat (first | (with_reducible first | exact HB.out | apply below_alloc | apply pw_below_drewN | apply below_drew1) | exact HB.out)⟩⟩
    case round =>
      clear H'
      try clear c1
      try clear c2
      try clear c2b0
      try clear c2b1
      try clear p2
      try clear c4
      obtain ⟨x4_1, rfl, HA, HK1, HB⟩ := hrel
      cases gk with
      | zero => exact absurd HA.out (by simp [jobshelllaw45_KeymapShows.l0])
      | succ k1 =>
        have H := HA.out
        clear HA
        simp only [jobshelllaw45_KeymapShows.l0] at H
        by_cases c7 : x4_1 < (t217.size : Int)
        · rw [if_pos c7] at H
          have c7b0 : decide (x4_1 < (t217.size : Int)) = true := decide_eq_true c7
          clear c7
          by_cases c8 : 0 ≤ x4_1
          · rw [if_pos c8] at H
            have c8b0 : decide (0 ≤ x4_1) = true := decide_eq_true c8
            clear c8
            by_cases c10 : (bt t217 x4_1) < 32
            · rw [if_pos c10] at H
              have c10b0 : decide ((bt t217 x4_1) < 32) = true := decide_eq_true c10
              clear c10
              obtain rfl := Option.some.inj H
              have p9 : 0 ≤ (x4_1 : Int) := of_decide_eq_true (by first | (with_reducible assumption) | assumption)
              have q9 : x4_1 < (t217.size : Int) := of_decide_eq_true (by first | (with_reducible assumption) | assumption)
              have hx9 := bt_at t217 x4_1
              replace p9 := eq_true p9
              replace q9 := eq_true q9
              go_wp2
              go_ret
              exact ⟨by first | rfl | (simp [errW_none, errW_some] <;> rfl) | (simp [*, errW_none, errW_some] <;> rfl), by repeat (first | (with_reducible first | exact HB.out | apply below_alloc | apply pw_below_drewN | apply below_drew1) | exact HB.out)⟩
            · rw [if_neg c10] at H
              have c10b0 : decide ((bt t217 x4_1) < 32) = false := decide_eq_false c10
              clear c10
              by_cases c12 : (bt t217 x4_1) > 126
              · rw [if_pos c12] at H
                have c12b0 : decide (126 < (bt t217 x4_1)) = true := decide_eq_true c12
                clear c12
                obtain rfl := Option.some.inj H
                have p9 : 0 ≤ (x4_1 : Int) := of_decide_eq_true (by first | (with_reducible assumption) | assumption)
                have q9 : x4_1 < (t217.size : Int) := of_decide_eq_true (by first | (with_reducible assumption) | assumption)
                have hx9 := bt_at t217 x4_1
                replace p9 := eq_true p9
                replace q9 := eq_true q9
                have p11 : 0 ≤ (x4_1 : Int) := of_decide_eq_true (by first | (with_reducible assumption) | assumption)
                have q11 : x4_1 < (t217.size : Int) := of_decide_eq_true (by first | (with_reducible assumption) | assumption)
                have hx11 := bt_at t217 x4_1
                replace p11 := eq_true p11
                replace q11 := eq_true q11
                go_wp2
                go_ret
                exact ⟨by first | rfl | (simp [errW_none, errW_some] <;> rfl) | (simp [*, errW_none, errW_some] <;> rfl), by repeat (first | (with_reducible first | exact HB.out | apply below_alloc | apply pw_below_drewN | apply below_drew1) | exact HB.out)⟩
              · rw [if_neg c12] at H
                have c12b0 : decide (126 < (bt t217 x4_1)) = false := decide_eq_false c12
                clear c12
                have H' := Aside0.mk H
                clear H
                have p9 : 0 ≤ (x4_1 : Int) := of_decide_eq_true (by first | (with_reducible assumption) | assumption)
                have q9 : x4_1 < (t217.size : Int) := of_decide_eq_true (by first | (with_reducible assumption) | assumption)
                have hx9 := bt_at t217 x4_1
                replace p9 := eq_true p9
                replace q9 := eq_true q9
                have p11 : 0 ≤ (x4_1 : Int) := of_decide_eq_true (by first | (with_reducible assumption) | assumption)
                have q11 : x4_1 < (t217.size : Int) := of_decide_eq_true (by first | (with_reducible assumption) | assumption)
                have hx11 := bt_at t217 x4_1
                replace p11 := eq_true p11
                replace q11 := eq_true q11
                go_wp2
                go_roundg k1
                case measure => have := HK1.out; omega
                case rel => exact ⟨(wrap64 (x4_1 + 1)), (by first | rfl | (simp; done) | (simp [*]; done)), H', ⟨by have := HK1.out; omega⟩, ⟨by repeat (first | (with_reducible first | exact HB.out | apply below_alloc | apply pw_below_drewN | apply below_drew1) | exact HB.out)⟩⟩
          · rw [if_neg c8] at H
            exact absurd H (by simp)
        · rw [if_neg c7] at H
          have c7b0 : decide (x4_1 < (t217.size : Int)) = false := decide_eq_false c7
          clear c7
          replace H := Option.bind_eq_some_iff.mp H
          obtain ⟨⟨t218, t219⟩, A130, H⟩ := H
          replace H : (if (a0.size : Int) > 16 then ((jobshellref45_Show.f k1 a0).bind fun t220 => (if t217.toList = t220.toList then (if t218.toList = ([] : List UInt8) then (if t219 = 3 then ((jobshelllaw45_awake.f k1).bind fun t221 => (some t221)) else (some false)) else (some false)) else (some false))) else ((jobshellref45_Show.f k1 a0).bind fun t222 => (if t217.toList = t222.toList then (if t218.toList = a0.toList then (if t219 = 0 then ((jobshelllaw45_awake.f k1).bind fun t223 => (some t223)) else (some false)) else (some false)) else (some false)))) = some r := H
          have A13 := Aside0.mk A130
          clear A130
          by_cases c14 : (a0.size : Int) > 16
          · rw [if_pos c14] at H
            have c14b0 : decide (16 < (a0.size : Int)) = true := decide_eq_true c14
            have c14b1 : decide (16 < a0.size) = true := decide_eq_true (by omega)
            clear c14
            replace H := Option.bind_eq_some_iff.mp H
            obtain ⟨t220, A150, H⟩ := H
            replace H : (if t217.toList = t220.toList then (if t218.toList = ([] : List UInt8) then (if t219 = 3 then ((jobshelllaw45_awake.f k1).bind fun t221 => (some t221)) else (some false)) else (some false)) else (some false)) = some r := H
            have A15 := Aside0.mk A150
            clear A150
            by_cases c16 : t217.toList = t220.toList
            · rw [if_pos c16] at H
              have c16b0 : (t217.toList == t220.toList) = true := beq_iff_eq.mpr c16
              have c16b1 : (t217.toList != t220.toList) = false := bne_eq_false_iff_eq.mpr c16
              clear c16
              by_cases c17 : t218.toList = ([] : List UInt8)
              · rw [if_pos c17] at H
                have c17b0 : (t218.toList == ([] : List UInt8)) = true := beq_iff_eq.mpr c17
                have c17b1 : (t218.toList != ([] : List UInt8)) = false := bne_eq_false_iff_eq.mpr c17
                clear c17
                by_cases c18 : t219 = 3
                · rw [if_pos c18] at H
                  have c18b0 : (t219 == 3) = true := beq_iff_eq.mpr c18
                  have c18b1 : (t219 != 3) = false := bne_eq_false_iff_eq.mpr c18
                  clear c18
                  replace H := Option.bind_eq_some_iff.mp H
                  obtain ⟨t221, A190, H⟩ := H
                  replace H : (some t221) = some r := H
                  have A19 := Aside0.mk A190
                  clear A190
                  obtain rfl := Option.some.inj H
                  go_wp2_with (first | ((with_reducible refine gate_callee (f := 10) rfl ?_); refine goesL_ (some 31) rfl rfl Tryd.func10 (by kernel_rfl) rfl #[.string t217] rfl (by (try simp only [List.map_toArray, List.map_cons, List.map_nil]); first | done | rfl | (simp only [List.length_drop, List.length_take]; rfl)) ?_; (with_reducible refine (keymap_Parse.calls k1 t217 t218 t219 _ ?side1 A13.out).mono ?_); (case side1 => exact HG.out.step (by repeat (first | (with_reducible first | exact HB.out | apply below_alloc | apply pw_below_drewN | apply below_drew1) | exact HB.out))); rintro e w20 ⟨rfl, hb⟩; refine ⟨_, rfl, ?_⟩; have n0_ := Aside0.mk (below_step (by repeat (first | (with_reducible first | exact HB.out | apply below_alloc | apply pw_below_drewN | apply below_drew1) | exact HB.out)) hb); clear HB; have HB := n0_; clear n0_; (try clear hb); (try clear hb2); (try clear hk); (try clear hi)) | ((with_reducible refine gate_callee (f := 13) rfl ?_); refine goesL_ (some 39) rfl rfl Tryd.func13 (by kernel_rfl) rfl #[.string a0] rfl (by (try simp only [List.map_toArray, List.map_cons, List.map_nil]); first | done | rfl | (simp only [List.length_drop, List.length_take]; rfl)) ?_; (with_reducible refine (jobshellref45_Show.calls k1 a0 t220 _ A15.out).mono ?_); rintro e w21 ⟨rfl, hb⟩; refine ⟨_, rfl, ?_⟩; have n0_ := Aside0.mk (below_step (by repeat (first | (with_reducible first | exact HB.out | apply below_alloc | apply pw_below_drewN | apply below_drew1) | exact HB.out)) hb); clear HB; have HB := n0_; clear n0_; (try clear hb); (try clear hb2); (try clear hk); (try clear hi)) | (go_at_call 9; (with_reducible refine (jobshelllaw45_awake.calls k1  t221 _ ?side1 A19.out).mono ?_); (case side1 => exact HG.out.step (by repeat (first | (with_reducible first | exact HB.out | apply below_alloc | apply pw_below_drewN | apply below_drew1) | exact HB.out))); rintro e w22 ⟨rfl, hb⟩; have n0_ := Aside0.mk (below_step (by repeat (first | (with_reducible first | exact HB.out | apply below_alloc | apply pw_below_drewN | apply below_drew1) | exact HB.out)) hb); clear HB; have HB := n0_; clear n0_; (try clear hb); (try clear hb2); (try clear hk); (try clear hi)))
                  go_ret
                  exact ⟨by first | rfl | (simp [errW_none, errW_some] <;> rfl) | (simp [*, errW_none, errW_some] <;> rfl), by repeat (first | (with_reducible first | exact HB.out | apply below_alloc | apply pw_below_drewN | apply below_drew1) | exact HB.out)⟩
                · rw [if_neg c18] at H
                  have c18b0 : (t219 == 3) = false := beq_eq_false_iff_ne.mpr c18
                  have c18b1 : (t219 != 3) = true := bne_iff_ne.mpr c18
                  obtain rfl := Option.some.inj H
                  go_wp2_with (first | ((with_reducible refine gate_callee (f := 10) rfl ?_); refine goesL_ (some 31) rfl rfl Tryd.func10 (by kernel_rfl) rfl #[.string t217] rfl (by (try simp only [List.map_toArray, List.map_cons, List.map_nil]); first | done | rfl | (simp only [List.length_drop, List.length_take]; rfl)) ?_; (with_reducible refine (keymap_Parse.calls k1 t217 t218 t219 _ ?side1 A13.out).mono ?_); (case side1 => exact HG.out.step (by repeat (first | (with_reducible first | exact HB.out | apply below_alloc | apply pw_below_drewN | apply below_drew1) | exact HB.out))); rintro e w23 ⟨rfl, hb⟩; refine ⟨_, rfl, ?_⟩; have n0_ := Aside0.mk (below_step (by repeat (first | (with_reducible first | exact HB.out | apply below_alloc | apply pw_below_drewN | apply below_drew1) | exact HB.out)) hb); clear HB; have HB := n0_; clear n0_; (try clear hb); (try clear hb2); (try clear hk); (try clear hi)) | ((with_reducible refine gate_callee (f := 13) rfl ?_); refine goesL_ (some 39) rfl rfl Tryd.func13 (by kernel_rfl) rfl #[.string a0] rfl (by (try simp only [List.map_toArray, List.map_cons, List.map_nil]); first | done | rfl | (simp only [List.length_drop, List.length_take]; rfl)) ?_; (with_reducible refine (jobshellref45_Show.calls k1 a0 t220 _ A15.out).mono ?_); rintro e w24 ⟨rfl, hb⟩; refine ⟨_, rfl, ?_⟩; have n0_ := Aside0.mk (below_step (by repeat (first | (with_reducible first | exact HB.out | apply below_alloc | apply pw_below_drewN | apply below_drew1) | exact HB.out)) hb); clear HB; have HB := n0_; clear n0_; (try clear hb); (try clear hb2); (try clear hk); (try clear hi)))
                  go_ret
                  exact ⟨by first | rfl | (simp [errW_none, errW_some] <;> rfl) | (simp [*, errW_none, errW_some] <;> rfl), by repeat (first | (with_reducible first | exact HB.out | apply below_alloc | apply pw_below_drewN | apply below_drew1) | exact HB.out)⟩
              · rw [if_neg c17] at H
                have c17b0 : (t218.toList == ([] : List UInt8)) = false := beq_eq_false_iff_ne.mpr c17
                have c17b1 : (t218.toList != ([] : List UInt8)) = true := bne_iff_ne.mpr c17
                obtain rfl := Option.some.inj H
                go_wp2_with (first | ((with_reducible refine gate_callee (f := 10) rfl ?_); refine goesL_ (some 31) rfl rfl Tryd.func10 (by kernel_rfl) rfl #[.string t217] rfl (by (try simp only [List.map_toArray, List.map_cons, List.map_nil]); first | done | rfl | (simp only [List.length_drop, List.length_take]; rfl)) ?_; (with_reducible refine (keymap_Parse.calls k1 t217 t218 t219 _ ?side1 A13.out).mono ?_); (case side1 => exact HG.out.step (by repeat (first | (with_reducible first | exact HB.out | apply below_alloc | apply pw_below_drewN | apply below_drew1) | exact HB.out))); rintro e w25 ⟨rfl, hb⟩; refine ⟨_, rfl, ?_⟩; have n0_ := Aside0.mk (below_step (by repeat (first | (with_reducible first | exact HB.out | apply below_alloc | apply pw_below_drewN | apply below_drew1) | exact HB.out)) hb); clear HB; have HB := n0_; clear n0_; (try clear hb); (try clear hb2); (try clear hk); (try clear hi)) | ((with_reducible refine gate_callee (f := 13) rfl ?_); refine goesL_ (some 39) rfl rfl Tryd.func13 (by kernel_rfl) rfl #[.string a0] rfl (by (try simp only [List.map_toArray, List.map_cons, List.map_nil]); first | done | rfl | (simp only [List.length_drop, List.length_take]; rfl)) ?_; (with_reducible refine (jobshellref45_Show.calls k1 a0 t220 _ A15.out).mono ?_); rintro e w26 ⟨rfl, hb⟩; refine ⟨_, rfl, ?_⟩; have n0_ := Aside0.mk (below_step (by repeat (first | (with_reducible first | exact HB.out | apply below_alloc | apply pw_below_drewN | apply below_drew1) | exact HB.out)) hb); clear HB; have HB := n0_; clear n0_; (try clear hb); (try clear hb2); (try clear hk); (try clear hi)))
                go_ret
                exact ⟨by first | rfl | (simp [errW_none, errW_some] <;> rfl) | (simp [*, errW_none, errW_some] <;> rfl), by repeat (first | (with_reducible first | exact HB.out | apply below_alloc | apply pw_below_drewN | apply below_drew1) | exact HB.out)⟩
            · rw [if_neg c16] at H
              have c16b0 : (t217.toList == t220.toList) = false := beq_eq_false_iff_ne.mpr c16
              have c16b1 : (t217.toList != t220.toList) = true := bne_iff_ne.mpr c16
              obtain rfl := Option.some.inj H
              go_wp2_with (first | ((with_reducible refine gate_callee (f := 10) rfl ?_); refine goesL_ (some 31) rfl rfl Tryd.func10 (by kernel_rfl) rfl #[.string t217] rfl (by (try simp only [List.map_toArray, List.map_cons, List.map_nil]); first | done | rfl | (simp only [List.length_drop, List.length_take]; rfl)) ?_; (with_reducible refine (keymap_Parse.calls k1 t217 t218 t219 _ ?side1 A13.out).mono ?_); (case side1 => exact HG.out.step (by repeat (first | (with_reducible first | exact HB.out | apply below_alloc | apply pw_below_drewN | apply below_drew1) | exact HB.out))); rintro e w27 ⟨rfl, hb⟩; refine ⟨_, rfl, ?_⟩; have n0_ := Aside0.mk (below_step (by repeat (first | (with_reducible first | exact HB.out | apply below_alloc | apply pw_below_drewN | apply below_drew1) | exact HB.out)) hb); clear HB; have HB := n0_; clear n0_; (try clear hb); (try clear hb2); (try clear hk); (try clear hi)) | ((with_reducible refine gate_callee (f := 13) rfl ?_); refine goesL_ (some 39) rfl rfl Tryd.func13 (by kernel_rfl) rfl #[.string a0] rfl (by (try simp only [List.map_toArray, List.map_cons, List.map_nil]); first | done | rfl | (simp only [List.length_drop, List.length_take]; rfl)) ?_; (with_reducible refine (jobshellref45_Show.calls k1 a0 t220 _ A15.out).mono ?_); rintro e w28 ⟨rfl, hb⟩; refine ⟨_, rfl, ?_⟩; have n0_ := Aside0.mk (below_step (by repeat (first | (with_reducible first | exact HB.out | apply below_alloc | apply pw_below_drewN | apply below_drew1) | exact HB.out)) hb); clear HB; have HB := n0_; clear n0_; (try clear hb); (try clear hb2); (try clear hk); (try clear hi)))
              go_ret
              exact ⟨by first | rfl | (simp [errW_none, errW_some] <;> rfl) | (simp [*, errW_none, errW_some] <;> rfl), by repeat (first | (with_reducible first | exact HB.out | apply below_alloc | apply pw_below_drewN | apply below_drew1) | exact HB.out)⟩
          · rw [if_neg c14] at H
            have c14b0 : decide (16 < (a0.size : Int)) = false := decide_eq_false c14
            have c14b1 : decide (16 < a0.size) = false := decide_eq_false (by omega)
            clear c14
            replace H := Option.bind_eq_some_iff.mp H
            obtain ⟨t222, A290, H⟩ := H
            replace H : (if t217.toList = t222.toList then (if t218.toList = a0.toList then (if t219 = 0 then ((jobshelllaw45_awake.f k1).bind fun t223 => (some t223)) else (some false)) else (some false)) else (some false)) = some r := H
            have A29 := Aside0.mk A290
            clear A290
            by_cases c30 : t217.toList = t222.toList
            · rw [if_pos c30] at H
              have c30b0 : (t217.toList == t222.toList) = true := beq_iff_eq.mpr c30
              have c30b1 : (t217.toList != t222.toList) = false := bne_eq_false_iff_eq.mpr c30
              clear c30
              by_cases c31 : t218.toList = a0.toList
              · rw [if_pos c31] at H
                have c31b0 : (t218.toList == a0.toList) = true := beq_iff_eq.mpr c31
                have c31b1 : (t218.toList != a0.toList) = false := bne_eq_false_iff_eq.mpr c31
                clear c31
                by_cases c32 : t219 = 0
                · rw [if_pos c32] at H
                  have c32b0 : (t219 == 0) = true := beq_iff_eq.mpr c32
                  have c32b1 : (t219 != 0) = false := bne_eq_false_iff_eq.mpr c32
                  clear c32
                  replace H := Option.bind_eq_some_iff.mp H
                  obtain ⟨t223, A330, H⟩ := H
                  replace H : (some t223) = some r := H
                  have A33 := Aside0.mk A330
                  clear A330
                  obtain rfl := Option.some.inj H
                  go_wp2_with (first | ((with_reducible refine gate_callee (f := 10) rfl ?_); refine goesL_ (some 31) rfl rfl Tryd.func10 (by kernel_rfl) rfl #[.string t217] rfl (by (try simp only [List.map_toArray, List.map_cons, List.map_nil]); first | done | rfl | (simp only [List.length_drop, List.length_take]; rfl)) ?_; (with_reducible refine (keymap_Parse.calls k1 t217 t218 t219 _ ?side1 A13.out).mono ?_); (case side1 => exact HG.out.step (by repeat (first | (with_reducible first | exact HB.out | apply below_alloc | apply pw_below_drewN | apply below_drew1) | exact HB.out))); rintro e w34 ⟨rfl, hb⟩; refine ⟨_, rfl, ?_⟩; have n0_ := Aside0.mk (below_step (by repeat (first | (with_reducible first | exact HB.out | apply below_alloc | apply pw_below_drewN | apply below_drew1) | exact HB.out)) hb); clear HB; have HB := n0_; clear n0_; (try clear hb); (try clear hb2); (try clear hk); (try clear hi)) | ((with_reducible refine gate_callee (f := 13) rfl ?_); refine goesL_ (some 54) rfl rfl Tryd.func13 (by kernel_rfl) rfl #[.string a0] rfl (by (try simp only [List.map_toArray, List.map_cons, List.map_nil]); first | done | rfl | (simp only [List.length_drop, List.length_take]; rfl)) ?_; (with_reducible refine (jobshellref45_Show.calls k1 a0 t222 _ A29.out).mono ?_); rintro e w35 ⟨rfl, hb⟩; refine ⟨_, rfl, ?_⟩; have n0_ := Aside0.mk (below_step (by repeat (first | (with_reducible first | exact HB.out | apply below_alloc | apply pw_below_drewN | apply below_drew1) | exact HB.out)) hb); clear HB; have HB := n0_; clear n0_; (try clear hb); (try clear hb2); (try clear hk); (try clear hi)) | (go_at_call 9; (with_reducible refine (jobshelllaw45_awake.calls k1  t223 _ ?side1 A33.out).mono ?_); (case side1 => exact HG.out.step (by repeat (first | (with_reducible first | exact HB.out | apply below_alloc | apply pw_below_drewN | apply below_drew1) | exact HB.out))); rintro e w36 ⟨rfl, hb⟩; have n0_ := Aside0.mk (below_step (by repeat (first | (with_reducible first | exact HB.out | apply below_alloc | apply pw_below_drewN | apply below_drew1) | exact HB.out)) hb); clear HB; have HB := n0_; clear n0_; (try clear hb); (try clear hb2); (try clear hk); (try clear hi)))
                  go_ret
                  exact ⟨by first | rfl | (simp [errW_none, errW_some] <;> rfl) | (simp [*, errW_none, errW_some] <;> rfl), by repeat (first | (with_reducible first | exact HB.out | apply below_alloc | apply pw_below_drewN | apply below_drew1) | exact HB.out)⟩
                · rw [if_neg c32] at H
                  have c32b0 : (t219 == 0) = false := beq_eq_false_iff_ne.mpr c32
                  have c32b1 : (t219 != 0) = true := bne_iff_ne.mpr c32
                  obtain rfl := Option.some.inj H
                  go_wp2_with (first | ((with_reducible refine gate_callee (f := 10) rfl ?_); refine goesL_ (some 31) rfl rfl Tryd.func10 (by kernel_rfl) rfl #[.string t217] rfl (by (try simp only [List.map_toArray, List.map_cons, List.map_nil]); first | done | rfl | (simp only [List.length_drop, List.length_take]; rfl)) ?_; (with_reducible refine (keymap_Parse.calls k1 t217 t218 t219 _ ?side1 A13.out).mono ?_); (case side1 => exact HG.out.step (by repeat (first | (with_reducible first | exact HB.out | apply below_alloc | apply pw_below_drewN | apply below_drew1) | exact HB.out))); rintro e w37 ⟨rfl, hb⟩; refine ⟨_, rfl, ?_⟩; have n0_ := Aside0.mk (below_step (by repeat (first | (with_reducible first | exact HB.out | apply below_alloc | apply pw_below_drewN | apply below_drew1) | exact HB.out)) hb); clear HB; have HB := n0_; clear n0_; (try clear hb); (try clear hb2); (try clear hk); (try clear hi)) | ((with_reducible refine gate_callee (f := 13) rfl ?_); refine goesL_ (some 54) rfl rfl Tryd.func13 (by kernel_rfl) rfl #[.string a0] rfl (by (try simp only [List.map_toArray, List.map_cons, List.map_nil]); first | done | rfl | (simp only [List.length_drop, List.length_take]; rfl)) ?_; (with_reducible refine (jobshellref45_Show.calls k1 a0 t222 _ A29.out).mono ?_); rintro e w38 ⟨rfl, hb⟩; refine ⟨_, rfl, ?_⟩; have n0_ := Aside0.mk (below_step (by repeat (first | (with_reducible first | exact HB.out | apply below_alloc | apply pw_below_drewN | apply below_drew1) | exact HB.out)) hb); clear HB; have HB := n0_; clear n0_; (try clear hb); (try clear hb2); (try clear hk); (try clear hi)))
                  go_ret
                  exact ⟨by first | rfl | (simp [errW_none, errW_some] <;> rfl) | (simp [*, errW_none, errW_some] <;> rfl), by repeat (first | (with_reducible first | exact HB.out | apply below_alloc | apply pw_below_drewN | apply below_drew1) | exact HB.out)⟩
              · rw [if_neg c31] at H
                have c31b0 : (t218.toList == a0.toList) = false := beq_eq_false_iff_ne.mpr c31
                have c31b1 : (t218.toList != a0.toList) = true := bne_iff_ne.mpr c31
                obtain rfl := Option.some.inj H
                go_wp2_with (first | ((with_reducible refine gate_callee (f := 10) rfl ?_); refine goesL_ (some 31) rfl rfl Tryd.func10 (by kernel_rfl) rfl #[.string t217] rfl (by (try simp only [List.map_toArray, List.map_cons, List.map_nil]); first | done | rfl | (simp only [List.length_drop, List.length_take]; rfl)) ?_; (with_reducible refine (keymap_Parse.calls k1 t217 t218 t219 _ ?side1 A13.out).mono ?_); (case side1 => exact HG.out.step (by repeat (first | (with_reducible first | exact HB.out | apply below_alloc | apply pw_below_drewN | apply below_drew1) | exact HB.out))); rintro e w39 ⟨rfl, hb⟩; refine ⟨_, rfl, ?_⟩; have n0_ := Aside0.mk (below_step (by repeat (first | (with_reducible first | exact HB.out | apply below_alloc | apply pw_below_drewN | apply below_drew1) | exact HB.out)) hb); clear HB; have HB := n0_; clear n0_; (try clear hb); (try clear hb2); (try clear hk); (try clear hi)) | ((with_reducible refine gate_callee (f := 13) rfl ?_); refine goesL_ (some 54) rfl rfl Tryd.func13 (by kernel_rfl) rfl #[.string a0] rfl (by (try simp only [List.map_toArray, List.map_cons, List.map_nil]); first | done | rfl | (simp only [List.length_drop, List.length_take]; rfl)) ?_; (with_reducible refine (jobshellref45_Show.calls k1 a0 t222 _ A29.out).mono ?_); rintro e w40 ⟨rfl, hb⟩; refine ⟨_, rfl, ?_⟩; have n0_ := Aside0.mk (below_step (by repeat (first | (with_reducible first | exact HB.out | apply below_alloc | apply pw_below_drewN | apply below_drew1) | exact HB.out)) hb); clear HB; have HB := n0_; clear n0_; (try clear hb); (try clear hb2); (try clear hk); (try clear hi)))
                go_ret
                exact ⟨by first | rfl | (simp [errW_none, errW_some] <;> rfl) | (simp [*, errW_none, errW_some] <;> rfl), by repeat (first | (with_reducible first | exact HB.out | apply below_alloc | apply pw_below_drewN | apply below_drew1) | exact HB.out)⟩
            · rw [if_neg c30] at H
              have c30b0 : (t217.toList == t222.toList) = false := beq_eq_false_iff_ne.mpr c30
              have c30b1 : (t217.toList != t222.toList) = true := bne_iff_ne.mpr c30
              obtain rfl := Option.some.inj H
              go_wp2_with (first | ((with_reducible refine gate_callee (f := 10) rfl ?_); refine goesL_ (some 31) rfl rfl Tryd.func10 (by kernel_rfl) rfl #[.string t217] rfl (by (try simp only [List.map_toArray, List.map_cons, List.map_nil]); first | done | rfl | (simp only [List.length_drop, List.length_take]; rfl)) ?_; (with_reducible refine (keymap_Parse.calls k1 t217 t218 t219 _ ?side1 A13.out).mono ?_); (case side1 => exact HG.out.step (by repeat (first | (with_reducible first | exact HB.out | apply below_alloc | apply pw_below_drewN | apply below_drew1) | exact HB.out))); rintro e w41 ⟨rfl, hb⟩; refine ⟨_, rfl, ?_⟩; have n0_ := Aside0.mk (below_step (by repeat (first | (with_reducible first | exact HB.out | apply below_alloc | apply pw_below_drewN | apply below_drew1) | exact HB.out)) hb); clear HB; have HB := n0_; clear n0_; (try clear hb); (try clear hb2); (try clear hk); (try clear hi)) | ((with_reducible refine gate_callee (f := 13) rfl ?_); refine goesL_ (some 54) rfl rfl Tryd.func13 (by kernel_rfl) rfl #[.string a0] rfl (by (try simp only [List.map_toArray, List.map_cons, List.map_nil]); first | done | rfl | (simp only [List.length_drop, List.length_take]; rfl)) ?_; (with_reducible refine (jobshellref45_Show.calls k1 a0 t222 _ A29.out).mono ?_); rintro e w42 ⟨rfl, hb⟩; refine ⟨_, rfl, ?_⟩; have n0_ := Aside0.mk (below_step (by repeat (first | (with_reducible first | exact HB.out | apply below_alloc | apply pw_below_drewN | apply below_drew1) | exact HB.out)) hb); clear HB; have HB := n0_; clear n0_; (try clear hb); (try clear hb2); (try clear hk); (try clear hi)))
              go_ret
              exact ⟨by first | rfl | (simp [errW_none, errW_some] <;> rfl) | (simp [*, errW_none, errW_some] <;> rfl), by repeat (first | (with_reducible first | exact HB.out | apply below_alloc | apply pw_below_drewN | apply below_drew1) | exact HB.out)⟩

/-- THE ONE PURE STATEMENT of jobshelllaw45_KeymapShows: yours. -/
def jobshelllaw45_KeymapShows.Pure : Prop := ∀ (a0 : ByteArray), a0.size ≤ 140737488351232 → ∃ k, jobshelllaw45_KeymapShows.f k a0 = some true
theorem jobshelllaw45_KeymapShows.walk (P : jobshelllaw45_KeymapShows.Pure) (a0 : ByteArray) (w : World) (w0 : a0.size ≤ 140737488351232) (hG : Laid w) :
    Calls Tryd.prog 4 #[.string a0] w fun e w' => e = .returned (.bool true) ∧ Below w.heap.size w w' := by
  obtain ⟨k, h⟩ := P a0 w0
  refine (jobshelllaw45_KeymapShows.calls k a0 true w hG h).mono ?_
  rintro e w' ⟨rfl, hd⟩
  exact ⟨rfl, hd⟩

/-! ### jobshellref45_Same: function 15 -/
def jobshellref45_Same.l0 : Nat → List (S45) → List (S45) → Int → Option (Bool)
  | 0, _, _, _ => none
  | k + 1, x0, x1, x5 => if x5 < (x0.length : Int) then (if 0 ≤ x5 then (if x5 < (x1.length : Int) then (if (!((((rd_T45 x0 x5).f0).toList) == (((rd_T45 x1 x5).f0).toList)) || (!(((rd_T45 x0 x5).f1) == ((rd_T45 x1 x5).f1)))) = true then (some false) else (jobshellref45_Same.l0 k x0 x1 (wrap64 (x5 + 1)))) else (none)) else (none)) else (some true)
def jobshellref45_Same.f (k : Nat) (l0 : List (S45)) (l1 : List (S45)) : Option (Bool) := if (l0.length : Int) = (l1.length : Int) then (jobshellref45_Same.l0 k l0 l1 0) else (some false)
theorem jobshellref45_Same.mono_l : ∀ k, (∀ y0 y1 y2, LeO (jobshellref45_Same.l0 k y0 y1 y2) (jobshellref45_Same.l0 (k + 1) y0 y1 y2))
  | 0 => fun _ _ _ r h => by simp [jobshellref45_Same.l0] at h
  | k + 1 => by
    have ih0 := jobshellref45_Same.mono_l k
    · intro y0 y1 y2
      unfold jobshellref45_Same.l0
      repeat' first
      | (with_reducible exact ih0 _ _ _)
      | (with_reducible exact LeO.refl _)
      | (with_reducible exact LeO.none _)
      | (with_reducible refine LeO.ite ?_ ?_)
      | (with_reducible refine LeO.bind ?_ (fun _ => ?_))
      | exact ih0 _ _ _
      | exact LeO.none _
      | refine LeO.ite ?_ ?_
      | refine LeO.bind ?_ (fun _ => ?_)
theorem jobshellref45_Same.mono : ∀ a0 a1 k, LeO (jobshellref45_Same.f k a0 a1) (jobshellref45_Same.f (k + 1) a0 a1) := by
  intro a0 a1 k
  have ih0 := jobshellref45_Same.mono_l k
  unfold jobshellref45_Same.f
  repeat' first
      | (with_reducible exact ih0 _ _ _)
      | (with_reducible exact LeO.refl _)
      | (with_reducible exact LeO.none _)
      | (with_reducible refine LeO.ite ?_ ?_)
      | (with_reducible refine LeO.bind ?_ (fun _ => ?_))
      | exact ih0 _ _ _
      | exact LeO.none _
      | refine LeO.ite ?_ ?_
      | refine LeO.bind ?_ (fun _ => ?_)
set_option maxHeartbeats 8000000 in
set_option maxRecDepth 100000 in
theorem jobshellref45_Same.calls (k : Nat) (A0 : Option Addr) (c0 : Nat) (l0 : List (S45)) (A1 : Option Addr) (c1 : Nat) (l1 : List (S45)) (r : Bool) (w : World) (hr0 : Kd.C k45 w A0 l0.length l0) (hc0 : l0.length ≤ c0) (hr1 : Kd.C k45 w A1 l1.length l1) (hc1 : l1.length ≤ c1) (h : jobshellref45_Same.f k l0 l1 = some r) :
    Calls Tryd.prog 15 #[.slice A0 l0.length c0, .slice A1 l1.length c1] w fun e w' => e = .returned (.bool r) ∧ Drawn0 w w' := by
  have hu45 := Tryd.underlying45
  have HR0 := Aside0.mk hr0
  have HC0 := Aside0.mk hc0
  clear hr0 hc0
  have HR1 := Aside0.mk hr1
  have HC1 := Aside0.mk hc1
  clear hr1 hc1
  have H : (if (l0.length : Int) = (l1.length : Int) then (jobshellref45_Same.l0 k l0 l1 0) else (some false)) = some r := h
  clear h
  by_cases c3 : (l0.length : Int) = (l1.length : Int)
  · rw [if_pos c3] at H
    have c3b0 : ((l0.length : Int) == (l1.length : Int)) = true := beq_iff_eq.mpr c3
    have c3b1 : ((l0.length : Int) != (l1.length : Int)) = false := bne_eq_false_iff_eq.mpr c3
    have c3b2 : (l0.length == l1.length) = true := by first | simpa using c3 | (simp at c3 ⊢; omega)
    clear c3
    have H' := Aside0.mk H
    clear H
    go_enter Tryd.func15, Tryd.ntmps15
    go_wp2
    repeat (go_quiet (fail); try go_wp2)
    go_loopg [5] k (fun kq v5 w' => ∃ (x5_1 : Int), v5 = .int .i64 x5_1 ∧ Aside0 (jobshellref45_Same.l0 kq l0 l1 x5_1 = some r) ∧ Aside0 (kq ≤ k) ∧ Drawn0 w w')
    case atStart => exact ⟨(0), (by first | rfl | (simp; done) | (simp [*]; done)), H', ⟨Nat.le_refl _⟩, by repeat (first | exact Drawn0.refl _ | apply Drawn0.step)⟩
    case round =>
      clear H'
      try clear c1
      try clear p2
      try clear c3
      try clear c3b0
      try clear c3b1
      try clear c3b2
      obtain ⟨x5_1, rfl, HA, HK1, ⟨m1, rfl⟩⟩ := hrel
      cases gk with
      | zero => exact absurd HA.out (by simp [jobshellref45_Same.l0])
      | succ k1 =>
        have H := HA.out
        clear HA
        simp only [jobshellref45_Same.l0] at H
        by_cases c4 : x5_1 < (l0.length : Int)
        · rw [if_pos c4] at H
          have c4b0 : decide (x5_1 < (l0.length : Int)) = true := decide_eq_true c4
          clear c4
          by_cases c5 : 0 ≤ x5_1
          · rw [if_pos c5] at H
            have c5b0 : decide (0 ≤ x5_1) = true := decide_eq_true c5
            clear c5
            by_cases c6 : x5_1 < (l1.length : Int)
            · rw [if_pos c6] at H
              have c6b0 : decide (x5_1 < (l1.length : Int)) = true := decide_eq_true c6
              clear c6
              by_cases c7 : (!((((rd_T45 l0 x5_1).f0).toList) == (((rd_T45 l1 x5_1).f0).toList)) || (!(((rd_T45 l0 x5_1).f1) == ((rd_T45 l1 x5_1).f1)))) = true
              · rw [if_pos c7] at H
                have c7b0 : (!((((rd_T45 l0 x5_1).f0).toList) == (((rd_T45 l1 x5_1).f0).toList)) || (!(((rd_T45 l0 x5_1).f1) == ((rd_T45 l1 x5_1).f1)))) = true := c7
                clear c7
                obtain rfl := Option.some.inj H
                have p224 : 0 ≤ (x5_1 : Int) := of_decide_eq_true (by first | (with_reducible assumption) | assumption)
                have q224 : x5_1 < (l0.length : Int) := of_decide_eq_true (by first | (with_reducible assumption) | assumption)
                obtain ⟨ad224, e224, hx224_0, hx224_1⟩ := at_T45 HR0.out x5_1 p224 q224
                cases e224
                replace p224 := eq_true p224
                replace q224 := eq_true q224
                have p225 : 0 ≤ (x5_1 : Int) := of_decide_eq_true (by first | (with_reducible assumption) | assumption)
                have q225 : x5_1 < (l1.length : Int) := of_decide_eq_true (by first | (with_reducible assumption) | assumption)
                obtain ⟨ad225, e225, hx225_0, hx225_1⟩ := at_T45 HR1.out x5_1 p225 q225
                cases e225
                replace p225 := eq_true p225
                replace q225 := eq_true q225
                go_wp2
                repeat (go_quiet (fail); try go_wp2)
                go_ret
                exact ⟨by first | rfl | (simp; done) | (simp [*]; done), by repeat (first | exact Drawn0.refl _ | apply Drawn0.step)⟩
              · rw [if_neg c7] at H
                have c7b0 : (!((((rd_T45 l0 x5_1).f0).toList) == (((rd_T45 l1 x5_1).f0).toList)) || (!(((rd_T45 l0 x5_1).f1) == ((rd_T45 l1 x5_1).f1)))) = false := by simpa using c7
                clear c7
                have H' := Aside0.mk H
                clear H
                have p224 : 0 ≤ (x5_1 : Int) := of_decide_eq_true (by first | (with_reducible assumption) | assumption)
                have q224 : x5_1 < (l0.length : Int) := of_decide_eq_true (by first | (with_reducible assumption) | assumption)
                obtain ⟨ad224, e224, hx224_0, hx224_1⟩ := at_T45 HR0.out x5_1 p224 q224
                cases e224
                replace p224 := eq_true p224
                replace q224 := eq_true q224
                have p225 : 0 ≤ (x5_1 : Int) := of_decide_eq_true (by first | (with_reducible assumption) | assumption)
                have q225 : x5_1 < (l1.length : Int) := of_decide_eq_true (by first | (with_reducible assumption) | assumption)
                obtain ⟨ad225, e225, hx225_0, hx225_1⟩ := at_T45 HR1.out x5_1 p225 q225
                cases e225
                replace p225 := eq_true p225
                replace q225 := eq_true q225
                go_wp2
                repeat (go_quiet (fail); try go_wp2)
                go_roundg k1
                case measure => have := HK1.out; omega
                case rel => exact ⟨(wrap64 (x5_1 + 1)), (by first | rfl | (simp; done) | (simp [*]; done)), H', ⟨by have := HK1.out; omega⟩, by repeat (first | exact Drawn0.refl _ | apply Drawn0.step)⟩
            · rw [if_neg c6] at H
              exact absurd H (by simp)
          · rw [if_neg c5] at H
            exact absurd H (by simp)
        · rw [if_neg c4] at H
          have c4b0 : decide (x5_1 < (l0.length : Int)) = false := decide_eq_false c4
          clear c4
          obtain rfl := Option.some.inj H
          go_wp2
          repeat (go_quiet (fail); try go_wp2)
          go_ret
          exact ⟨by first | rfl | (simp; done) | (simp [*]; done), by repeat (first | exact Drawn0.refl _ | apply Drawn0.step)⟩
  · rw [if_neg c3] at H
    have c3b0 : ((l0.length : Int) == (l1.length : Int)) = false := beq_eq_false_iff_ne.mpr c3
    have c3b1 : ((l0.length : Int) != (l1.length : Int)) = true := bne_iff_ne.mpr c3
    have c3b2 : (l0.length == l1.length) = false := by first | simpa using c3 | (simp at c3 ⊢; omega)
    obtain rfl := Option.some.inj H
    go_enter Tryd.func15, Tryd.ntmps15
    go_wp2
    repeat (go_quiet (fail); try go_wp2)
    go_ret
    exact ⟨by first | rfl | (simp; done) | (simp [*]; done), by repeat (first | exact Drawn0.refl _ | apply Drawn0.step)⟩

/-! ### jobshellref45_Default: function 16 -/
def jobshellref45_Default.f  : Option ((List (S45))) := some (([(⟨(⟨#[1]⟩ : ByteArray), 5⟩ : S45), (⟨(⟨#[2]⟩ : ByteArray), 3⟩ : S45), (⟨(⟨#[3]⟩ : ByteArray), 24⟩ : S45), (⟨(⟨#[4]⟩ : ByteArray), 23⟩ : S45), (⟨(⟨#[5]⟩ : ByteArray), 6⟩ : S45), (⟨(⟨#[6]⟩ : ByteArray), 4⟩ : S45), (⟨(⟨#[8]⟩ : ByteArray), 9⟩ : S45), (⟨(⟨#[9]⟩ : ByteArray), 22⟩ : S45), (⟨(⟨#[10]⟩ : ByteArray), 2⟩ : S45), (⟨(⟨#[11]⟩ : ByteArray), 11⟩ : S45), (⟨(⟨#[13]⟩ : ByteArray), 2⟩ : S45), (⟨(⟨#[14]⟩ : ByteArray), 21⟩ : S45), (⟨(⟨#[16]⟩ : ByteArray), 20⟩ : S45), (⟨(⟨#[20]⟩ : ByteArray), 19⟩ : S45), (⟨(⟨#[21]⟩ : ByteArray), 12⟩ : S45), (⟨(⟨#[23]⟩ : ByteArray), 14⟩ : S45), (⟨(⟨#[24, 18]⟩ : ByteArray), 18⟩ : S45), (⟨(⟨#[24, 21]⟩ : ByteArray), 17⟩ : S45), (⟨(⟨#[24, 24]⟩ : ByteArray), 26⟩ : S45), (⟨(⟨#[25]⟩ : ByteArray), 15⟩ : S45), (⟨(⟨#[27, 32]⟩ : ByteArray), 25⟩ : S45), (⟨(⟨#[27, 91, 65]⟩ : ByteArray), 20⟩ : S45), (⟨(⟨#[27, 91, 66]⟩ : ByteArray), 21⟩ : S45), (⟨(⟨#[27, 91, 67]⟩ : ByteArray), 4⟩ : S45), (⟨(⟨#[27, 91, 68]⟩ : ByteArray), 3⟩ : S45), (⟨(⟨#[27, 98]⟩ : ByteArray), 7⟩ : S45), (⟨(⟨#[27, 100]⟩ : ByteArray), 13⟩ : S45), (⟨(⟨#[27, 102]⟩ : ByteArray), 8⟩ : S45), (⟨(⟨#[27, 108]⟩ : ByteArray), 28⟩ : S45), (⟨(⟨#[27, 117]⟩ : ByteArray), 27⟩ : S45), (⟨(⟨#[27, 121]⟩ : ByteArray), 16⟩ : S45), (⟨(⟨#[31]⟩ : ByteArray), 17⟩ : S45), (⟨(⟨#[127]⟩ : ByteArray), 9⟩ : S45)] : List (S45)))
set_option maxHeartbeats 8000000 in
set_option maxRecDepth 100000 in
theorem jobshellref45_Default.calls  (r : List (S45)) (w : World) (h : jobshellref45_Default.f  = some r) :
    Calls Tryd.prog 16 #[] w fun e w' => ∃ v0_ : Value, e = .returned (v0_) ∧ Kd.R k45 45 w' w.heap.size (fun _ => True) v0_ r ∧ Below w.heap.size w w' := by
  have hu45 := Tryd.underlying45
  have HB := Aside0.mk (Below.refl w.heap.size w)
  have H : (some (([(⟨(⟨#[1]⟩ : ByteArray), 5⟩ : S45), (⟨(⟨#[2]⟩ : ByteArray), 3⟩ : S45), (⟨(⟨#[3]⟩ : ByteArray), 24⟩ : S45), (⟨(⟨#[4]⟩ : ByteArray), 23⟩ : S45), (⟨(⟨#[5]⟩ : ByteArray), 6⟩ : S45), (⟨(⟨#[6]⟩ : ByteArray), 4⟩ : S45), (⟨(⟨#[8]⟩ : ByteArray), 9⟩ : S45), (⟨(⟨#[9]⟩ : ByteArray), 22⟩ : S45), (⟨(⟨#[10]⟩ : ByteArray), 2⟩ : S45), (⟨(⟨#[11]⟩ : ByteArray), 11⟩ : S45), (⟨(⟨#[13]⟩ : ByteArray), 2⟩ : S45), (⟨(⟨#[14]⟩ : ByteArray), 21⟩ : S45), (⟨(⟨#[16]⟩ : ByteArray), 20⟩ : S45), (⟨(⟨#[20]⟩ : ByteArray), 19⟩ : S45), (⟨(⟨#[21]⟩ : ByteArray), 12⟩ : S45), (⟨(⟨#[23]⟩ : ByteArray), 14⟩ : S45), (⟨(⟨#[24, 18]⟩ : ByteArray), 18⟩ : S45), (⟨(⟨#[24, 21]⟩ : ByteArray), 17⟩ : S45), (⟨(⟨#[24, 24]⟩ : ByteArray), 26⟩ : S45), (⟨(⟨#[25]⟩ : ByteArray), 15⟩ : S45), (⟨(⟨#[27, 32]⟩ : ByteArray), 25⟩ : S45), (⟨(⟨#[27, 91, 65]⟩ : ByteArray), 20⟩ : S45), (⟨(⟨#[27, 91, 66]⟩ : ByteArray), 21⟩ : S45), (⟨(⟨#[27, 91, 67]⟩ : ByteArray), 4⟩ : S45), (⟨(⟨#[27, 91, 68]⟩ : ByteArray), 3⟩ : S45), (⟨(⟨#[27, 98]⟩ : ByteArray), 7⟩ : S45), (⟨(⟨#[27, 100]⟩ : ByteArray), 13⟩ : S45), (⟨(⟨#[27, 102]⟩ : ByteArray), 8⟩ : S45), (⟨(⟨#[27, 108]⟩ : ByteArray), 28⟩ : S45), (⟨(⟨#[27, 117]⟩ : ByteArray), 27⟩ : S45), (⟨(⟨#[27, 121]⟩ : ByteArray), 16⟩ : S45), (⟨(⟨#[31]⟩ : ByteArray), 17⟩ : S45), (⟨(⟨#[127]⟩ : ByteArray), 9⟩ : S45)] : List (S45)))) = some r := h
  clear h
  obtain ⟨y226, hy226⟩ : ∃ y_ : List (S45), y_ = (([(⟨(⟨#[1]⟩ : ByteArray), 5⟩ : S45), (⟨(⟨#[2]⟩ : ByteArray), 3⟩ : S45), (⟨(⟨#[3]⟩ : ByteArray), 24⟩ : S45), (⟨(⟨#[4]⟩ : ByteArray), 23⟩ : S45), (⟨(⟨#[5]⟩ : ByteArray), 6⟩ : S45), (⟨(⟨#[6]⟩ : ByteArray), 4⟩ : S45), (⟨(⟨#[8]⟩ : ByteArray), 9⟩ : S45), (⟨(⟨#[9]⟩ : ByteArray), 22⟩ : S45), (⟨(⟨#[10]⟩ : ByteArray), 2⟩ : S45), (⟨(⟨#[11]⟩ : ByteArray), 11⟩ : S45), (⟨(⟨#[13]⟩ : ByteArray), 2⟩ : S45), (⟨(⟨#[14]⟩ : ByteArray), 21⟩ : S45), (⟨(⟨#[16]⟩ : ByteArray), 20⟩ : S45), (⟨(⟨#[20]⟩ : ByteArray), 19⟩ : S45), (⟨(⟨#[21]⟩ : ByteArray), 12⟩ : S45), (⟨(⟨#[23]⟩ : ByteArray), 14⟩ : S45), (⟨(⟨#[24, 18]⟩ : ByteArray), 18⟩ : S45), (⟨(⟨#[24, 21]⟩ : ByteArray), 17⟩ : S45), (⟨(⟨#[24, 24]⟩ : ByteArray), 26⟩ : S45), (⟨(⟨#[25]⟩ : ByteArray), 15⟩ : S45), (⟨(⟨#[27, 32]⟩ : ByteArray), 25⟩ : S45), (⟨(⟨#[27, 91, 65]⟩ : ByteArray), 20⟩ : S45), (⟨(⟨#[27, 91, 66]⟩ : ByteArray), 21⟩ : S45), (⟨(⟨#[27, 91, 67]⟩ : ByteArray), 4⟩ : S45), (⟨(⟨#[27, 91, 68]⟩ : ByteArray), 3⟩ : S45), (⟨(⟨#[27, 98]⟩ : ByteArray), 7⟩ : S45), (⟨(⟨#[27, 100]⟩ : ByteArray), 13⟩ : S45), (⟨(⟨#[27, 102]⟩ : ByteArray), 8⟩ : S45), (⟨(⟨#[27, 108]⟩ : ByteArray), 28⟩ : S45), (⟨(⟨#[27, 117]⟩ : ByteArray), 27⟩ : S45), (⟨(⟨#[27, 121]⟩ : ByteArray), 16⟩ : S45), (⟨(⟨#[31]⟩ : ByteArray), 17⟩ : S45), (⟨(⟨#[127]⟩ : ByteArray), 9⟩ : S45)] : List (S45))) := ⟨_, rfl⟩
  replace H : (some y226) = some r := by first | (rw [hy226]; with_reducible exact H) | (have H2_ := (Option.bind_some _ _).symm.trans H; rw [hy226]; with_reducible exact H2_) | (have H2_ := (Option.bind_some _ _).symm.trans H; with_reducible exact H2_) | with_reducible exact H | (rw [hy226]; exact H) | exact H
  have Ny226 := Aside0.mk hy226
  clear hy226
  obtain rfl := Option.some.inj H
  go_enter Tryd.func16, Tryd.ntmps16
  go_wp2_with (first | ((with_reducible refine gate_dst (N := 34) rfl ?_); refine Kd.R_lit k45 _ 45 ?hg (N := 34) ?hd (xs := ([(⟨(⟨#[1]⟩ : ByteArray), 5⟩ : S45), (⟨(⟨#[2]⟩ : ByteArray), 3⟩ : S45), (⟨(⟨#[3]⟩ : ByteArray), 24⟩ : S45), (⟨(⟨#[4]⟩ : ByteArray), 23⟩ : S45), (⟨(⟨#[5]⟩ : ByteArray), 6⟩ : S45), (⟨(⟨#[6]⟩ : ByteArray), 4⟩ : S45), (⟨(⟨#[8]⟩ : ByteArray), 9⟩ : S45), (⟨(⟨#[9]⟩ : ByteArray), 22⟩ : S45), (⟨(⟨#[10]⟩ : ByteArray), 2⟩ : S45), (⟨(⟨#[11]⟩ : ByteArray), 11⟩ : S45), (⟨(⟨#[13]⟩ : ByteArray), 2⟩ : S45), (⟨(⟨#[14]⟩ : ByteArray), 21⟩ : S45), (⟨(⟨#[16]⟩ : ByteArray), 20⟩ : S45), (⟨(⟨#[20]⟩ : ByteArray), 19⟩ : S45), (⟨(⟨#[21]⟩ : ByteArray), 12⟩ : S45), (⟨(⟨#[23]⟩ : ByteArray), 14⟩ : S45), (⟨(⟨#[24, 18]⟩ : ByteArray), 18⟩ : S45), (⟨(⟨#[24, 21]⟩ : ByteArray), 17⟩ : S45), (⟨(⟨#[24, 24]⟩ : ByteArray), 26⟩ : S45), (⟨(⟨#[25]⟩ : ByteArray), 15⟩ : S45), (⟨(⟨#[27, 32]⟩ : ByteArray), 25⟩ : S45), (⟨(⟨#[27, 91, 65]⟩ : ByteArray), 20⟩ : S45), (⟨(⟨#[27, 91, 66]⟩ : ByteArray), 21⟩ : S45), (⟨(⟨#[27, 91, 67]⟩ : ByteArray), 4⟩ : S45), (⟨(⟨#[27, 91, 68]⟩ : ByteArray), 3⟩ : S45), (⟨(⟨#[27, 98]⟩ : ByteArray), 7⟩ : S45), (⟨(⟨#[27, 100]⟩ : ByteArray), 13⟩ : S45), (⟨(⟨#[27, 102]⟩ : ByteArray), 8⟩ : S45), (⟨(⟨#[27, 108]⟩ : ByteArray), 28⟩ : S45), (⟨(⟨#[27, 117]⟩ : ByteArray), 27⟩ : S45), (⟨(⟨#[27, 121]⟩ : ByteArray), 16⟩ : S45), (⟨(⟨#[31]⟩ : ByteArray), 17⟩ : S45), (⟨(⟨#[127]⟩ : ByteArray), 9⟩ : S45)] : List (S45))) (inner := [.string (⟨#[1]⟩ : ByteArray), .int .i64 5, .string (⟨#[2]⟩ : ByteArray), .int .i64 3, .string (⟨#[3]⟩ : ByteArray), .int .i64 24, .string (⟨#[4]⟩ : ByteArray), .int .i64 23, .string (⟨#[5]⟩ : ByteArray), .int .i64 6, .string (⟨#[6]⟩ : ByteArray), .int .i64 4, .string (⟨#[8]⟩ : ByteArray), .int .i64 9, .string (⟨#[9]⟩ : ByteArray), .int .i64 22, .string (⟨#[10]⟩ : ByteArray), .int .i64 2, .string (⟨#[11]⟩ : ByteArray), .int .i64 11, .string (⟨#[13]⟩ : ByteArray), .int .i64 2, .string (⟨#[14]⟩ : ByteArray), .int .i64 21, .string (⟨#[16]⟩ : ByteArray), .int .i64 20, .string (⟨#[20]⟩ : ByteArray), .int .i64 19, .string (⟨#[21]⟩ : ByteArray), .int .i64 12, .string (⟨#[23]⟩ : ByteArray), .int .i64 14, .string (⟨#[24, 18]⟩ : ByteArray), .int .i64 18, .string (⟨#[24, 21]⟩ : ByteArray), .int .i64 17, .string (⟨#[24, 24]⟩ : ByteArray), .int .i64 26, .string (⟨#[25]⟩ : ByteArray), .int .i64 15, .string (⟨#[27, 32]⟩ : ByteArray), .int .i64 25, .string (⟨#[27, 91, 65]⟩ : ByteArray), .int .i64 20, .string (⟨#[27, 91, 66]⟩ : ByteArray), .int .i64 21, .string (⟨#[27, 91, 67]⟩ : ByteArray), .int .i64 4, .string (⟨#[27, 91, 68]⟩ : ByteArray), .int .i64 3, .string (⟨#[27, 98]⟩ : ByteArray), .int .i64 7, .string (⟨#[27, 100]⟩ : ByteArray), .int .i64 13, .string (⟨#[27, 102]⟩ : ByteArray), .int .i64 8, .string (⟨#[27, 108]⟩ : ByteArray), .int .i64 28, .string (⟨#[27, 117]⟩ : ByteArray), .int .i64 27, .string (⟨#[27, 121]⟩ : ByteArray), .int .i64 16, .string (⟨#[31]⟩ : ByteArray), .int .i64 17, .string (⟨#[127]⟩ : ByteArray), .int .i64 9]) (ok := fun _ => True) (okp := fun _ => True) ?hr ?hp (fun _ hk => hk) trivial (Below.refl _ _) (Nat.le_refl _) (by simp) ?_; (case hd => rfl); (case hg => rfl); (case hr => first | (go_simp; done) | (go_simp; rfl)); (case hp => exact (Reps.c2 (show Kd.M k45 _ _ _ (⟨(⟨#[1]⟩ : ByteArray), 5⟩ : S45) [.string (⟨#[1]⟩ : ByteArray), .int .i64 5] from (k45_mkM _ _ _ (⟨(⟨#[1]⟩ : ByteArray), 5⟩ : S45) )) (Reps.c2 (show Kd.M k45 _ _ _ (⟨(⟨#[2]⟩ : ByteArray), 3⟩ : S45) [.string (⟨#[2]⟩ : ByteArray), .int .i64 3] from (k45_mkM _ _ _ (⟨(⟨#[2]⟩ : ByteArray), 3⟩ : S45) )) (Reps.c2 (show Kd.M k45 _ _ _ (⟨(⟨#[3]⟩ : ByteArray), 24⟩ : S45) [.string (⟨#[3]⟩ : ByteArray), .int .i64 24] from (k45_mkM _ _ _ (⟨(⟨#[3]⟩ : ByteArray), 24⟩ : S45) )) (Reps.c2 (show Kd.M k45 _ _ _ (⟨(⟨#[4]⟩ : ByteArray), 23⟩ : S45) [.string (⟨#[4]⟩ : ByteArray), .int .i64 23] from (k45_mkM _ _ _ (⟨(⟨#[4]⟩ : ByteArray), 23⟩ : S45) )) (Reps.c2 (show Kd.M k45 _ _ _ (⟨(⟨#[5]⟩ : ByteArray), 6⟩ : S45) [.string (⟨#[5]⟩ : ByteArray), .int .i64 6] from (k45_mkM _ _ _ (⟨(⟨#[5]⟩ : ByteArray), 6⟩ : S45) )) (Reps.c2 (show Kd.M k45 _ _ _ (⟨(⟨#[6]⟩ : ByteArray), 4⟩ : S45) [.string (⟨#[6]⟩ : ByteArray), .int .i64 4] from (k45_mkM _ _ _ (⟨(⟨#[6]⟩ : ByteArray), 4⟩ : S45) )) (Reps.c2 (show Kd.M k45 _ _ _ (⟨(⟨#[8]⟩ : ByteArray), 9⟩ : S45) [.string (⟨#[8]⟩ : ByteArray), .int .i64 9] from (k45_mkM _ _ _ (⟨(⟨#[8]⟩ : ByteArray), 9⟩ : S45) )) (Reps.c2 (show Kd.M k45 _ _ _ (⟨(⟨#[9]⟩ : ByteArray), 22⟩ : S45) [.string (⟨#[9]⟩ : ByteArray), .int .i64 22] from (k45_mkM _ _ _ (⟨(⟨#[9]⟩ : ByteArray), 22⟩ : S45) )) (Reps.c2 (show Kd.M k45 _ _ _ (⟨(⟨#[10]⟩ : ByteArray), 2⟩ : S45) [.string (⟨#[10]⟩ : ByteArray), .int .i64 2] from (k45_mkM _ _ _ (⟨(⟨#[10]⟩ : ByteArray), 2⟩ : S45) )) (Reps.c2 (show Kd.M k45 _ _ _ (⟨(⟨#[11]⟩ : ByteArray), 11⟩ : S45) [.string (⟨#[11]⟩ : ByteArray), .int .i64 11] from (k45_mkM _ _ _ (⟨(⟨#[11]⟩ : ByteArray), 11⟩ : S45) )) (Reps.c2 (show Kd.M k45 _ _ _ (⟨(⟨#[13]⟩ : ByteArray), 2⟩ : S45) [.string (⟨#[13]⟩ : ByteArray), .int .i64 2] from (k45_mkM _ _ _ (⟨(⟨#[13]⟩ : ByteArray), 2⟩ : S45) )) (Reps.c2 (show Kd.M k45 _ _ _ (⟨(⟨#[14]⟩ : ByteArray), 21⟩ : S45) [.string (⟨#[14]⟩ : ByteArray), .int .i64 21] from (k45_mkM _ _ _ (⟨(⟨#[14]⟩ : ByteArray), 21⟩ : S45) )) (Reps.c2 (show Kd.M k45 _ _ _ (⟨(⟨#[16]⟩ : ByteArray), 20⟩ : S45) [.string (⟨#[16]⟩ : ByteArray), .int .i64 20] from (k45_mkM _ _ _ (⟨(⟨#[16]⟩ : ByteArray), 20⟩ : S45) )) (Reps.c2 (show Kd.M k45 _ _ _ (⟨(⟨#[20]⟩ : ByteArray), 19⟩ : S45) [.string (⟨#[20]⟩ : ByteArray), .int .i64 19] from (k45_mkM _ _ _ (⟨(⟨#[20]⟩ : ByteArray), 19⟩ : S45) )) (Reps.c2 (show Kd.M k45 _ _ _ (⟨(⟨#[21]⟩ : ByteArray), 12⟩ : S45) [.string (⟨#[21]⟩ : ByteArray), .int .i64 12] from (k45_mkM _ _ _ (⟨(⟨#[21]⟩ : ByteArray), 12⟩ : S45) )) (Reps.c2 (show Kd.M k45 _ _ _ (⟨(⟨#[23]⟩ : ByteArray), 14⟩ : S45) [.string (⟨#[23]⟩ : ByteArray), .int .i64 14] from (k45_mkM _ _ _ (⟨(⟨#[23]⟩ : ByteArray), 14⟩ : S45) )) (Reps.c2 (show Kd.M k45 _ _ _ (⟨(⟨#[24, 18]⟩ : ByteArray), 18⟩ : S45) [.string (⟨#[24, 18]⟩ : ByteArray), .int .i64 18] from (k45_mkM _ _ _ (⟨(⟨#[24, 18]⟩ : ByteArray), 18⟩ : S45) )) (Reps.c2 (show Kd.M k45 _ _ _ (⟨(⟨#[24, 21]⟩ : ByteArray), 17⟩ : S45) [.string (⟨#[24, 21]⟩ : ByteArray), .int .i64 17] from (k45_mkM _ _ _ (⟨(⟨#[24, 21]⟩ : ByteArray), 17⟩ : S45) )) (Reps.c2 (show Kd.M k45 _ _ _ (⟨(⟨#[24, 24]⟩ : ByteArray), 26⟩ : S45) [.string (⟨#[24, 24]⟩ : ByteArray), .int .i64 26] from (k45_mkM _ _ _ (⟨(⟨#[24, 24]⟩ : ByteArray), 26⟩ : S45) )) (Reps.c2 (show Kd.M k45 _ _ _ (⟨(⟨#[25]⟩ : ByteArray), 15⟩ : S45) [.string (⟨#[25]⟩ : ByteArray), .int .i64 15] from (k45_mkM _ _ _ (⟨(⟨#[25]⟩ : ByteArray), 15⟩ : S45) )) (Reps.c2 (show Kd.M k45 _ _ _ (⟨(⟨#[27, 32]⟩ : ByteArray), 25⟩ : S45) [.string (⟨#[27, 32]⟩ : ByteArray), .int .i64 25] from (k45_mkM _ _ _ (⟨(⟨#[27, 32]⟩ : ByteArray), 25⟩ : S45) )) (Reps.c2 (show Kd.M k45 _ _ _ (⟨(⟨#[27, 91, 65]⟩ : ByteArray), 20⟩ : S45) [.string (⟨#[27, 91, 65]⟩ : ByteArray), .int .i64 20] from (k45_mkM _ _ _ (⟨(⟨#[27, 91, 65]⟩ : ByteArray), 20⟩ : S45) )) (Reps.c2 (show Kd.M k45 _ _ _ (⟨(⟨#[27, 91, 66]⟩ : ByteArray), 21⟩ : S45) [.string (⟨#[27, 91, 66]⟩ : ByteArray), .int .i64 21] from (k45_mkM _ _ _ (⟨(⟨#[27, 91, 66]⟩ : ByteArray), 21⟩ : S45) )) (Reps.c2 (show Kd.M k45 _ _ _ (⟨(⟨#[27, 91, 67]⟩ : ByteArray), 4⟩ : S45) [.string (⟨#[27, 91, 67]⟩ : ByteArray), .int .i64 4] from (k45_mkM _ _ _ (⟨(⟨#[27, 91, 67]⟩ : ByteArray), 4⟩ : S45) )) (Reps.c2 (show Kd.M k45 _ _ _ (⟨(⟨#[27, 91, 68]⟩ : ByteArray), 3⟩ : S45) [.string (⟨#[27, 91, 68]⟩ : ByteArray), .int .i64 3] from (k45_mkM _ _ _ (⟨(⟨#[27, 91, 68]⟩ : ByteArray), 3⟩ : S45) )) (Reps.c2 (show Kd.M k45 _ _ _ (⟨(⟨#[27, 98]⟩ : ByteArray), 7⟩ : S45) [.string (⟨#[27, 98]⟩ : ByteArray), .int .i64 7] from (k45_mkM _ _ _ (⟨(⟨#[27, 98]⟩ : ByteArray), 7⟩ : S45) )) (Reps.c2 (show Kd.M k45 _ _ _ (⟨(⟨#[27, 100]⟩ : ByteArray), 13⟩ : S45) [.string (⟨#[27, 100]⟩ : ByteArray), .int .i64 13] from (k45_mkM _ _ _ (⟨(⟨#[27, 100]⟩ : ByteArray), 13⟩ : S45) )) (Reps.c2 (show Kd.M k45 _ _ _ (⟨(⟨#[27, 102]⟩ : ByteArray), 8⟩ : S45) [.string (⟨#[27, 102]⟩ : ByteArray), .int .i64 8] from (k45_mkM _ _ _ (⟨(⟨#[27, 102]⟩ : ByteArray), 8⟩ : S45) )) (Reps.c2 (show Kd.M k45 _ _ _ (⟨(⟨#[27, 108]⟩ : ByteArray), 28⟩ : S45) [.string (⟨#[27, 108]⟩ : ByteArray), .int .i64 28] from (k45_mkM _ _ _ (⟨(⟨#[27, 108]⟩ : ByteArray), 28⟩ : S45) )) (Reps.c2 (show Kd.M k45 _ _ _ (⟨(⟨#[27, 117]⟩ : ByteArray), 27⟩ : S45) [.string (⟨#[27, 117]⟩ : ByteArray), .int .i64 27] from (k45_mkM _ _ _ (⟨(⟨#[27, 117]⟩ : ByteArray), 27⟩ : S45) )) (Reps.c2 (show Kd.M k45 _ _ _ (⟨(⟨#[27, 121]⟩ : ByteArray), 16⟩ : S45) [.string (⟨#[27, 121]⟩ : ByteArray), .int .i64 16] from (k45_mkM _ _ _ (⟨(⟨#[27, 121]⟩ : ByteArray), 16⟩ : S45) )) (Reps.c2 (show Kd.M k45 _ _ _ (⟨(⟨#[31]⟩ : ByteArray), 17⟩ : S45) [.string (⟨#[31]⟩ : ByteArray), .int .i64 17] from (k45_mkM _ _ _ (⟨(⟨#[31]⟩ : ByteArray), 17⟩ : S45) )) (Reps.c2 (show Kd.M k45 _ _ _ (⟨(⟨#[127]⟩ : ByteArray), 9⟩ : S45) [.string (⟨#[127]⟩ : ByteArray), .int .i64 9] from (k45_mkM _ _ _ (⟨(⟨#[127]⟩ : ByteArray), 9⟩ : S45) )) (Reps.none _ _))))))))))))))))))))))))))))))))))); intro v227 w1 ho2 hb hg_ hnew_; clear hg_ hnew_; (first | rw [← Ny226.out] at ho2 | (simp only [Int.reduceToNat] at ho2; rw [← Ny226.out] at ho2)); have n0_ := Aside0.mk (Kd.R_lower ho2 (below_size (by repeat (first | (with_reducible first | exact HB.out | apply below_alloc | apply pw_below_drewN | apply below_drew1) | exact HB.out)))); have n1_ := Aside0.mk (below_step (by repeat (first | (with_reducible first | exact HB.out | apply below_alloc | apply pw_below_drewN | apply below_drew1) | exact HB.out)) hb); clear HB; have HO228 := n0_; have HB := n1_; clear n0_ n1_; clear hb ho2))
  go_ret
  exact ⟨_, by first | rfl | (simp [errW_none, errW_some] <;> rfl) | (simp [*, errW_none, errW_some] <;> rfl), by (with_reducible repeat (first | apply Kd.R_alloc | apply Kd.R_drewN | apply Kd.R_drew)); exact HO228.out, by repeat (first | (with_reducible first | exact HB.out | apply below_alloc | apply pw_below_drewN | apply below_drew1) | exact HB.out)⟩

/-! ### jobshellref45_Begins: function 33 -/
def jobshellref45_Begins.f (a0 : ByteArray) (a1 : ByteArray) : Option (Bool) := if (a0.size : Int) ≤ (a1.size : Int) then (if 0 ≤ (a0.size : Int) then (some ((a1.extract 0 ((a0.size : Int) : Int).toNat).toList == a0.toList)) else (none)) else (some false)
set_option maxHeartbeats 8000000 in
set_option maxRecDepth 100000 in
theorem jobshellref45_Begins.calls (a0 : ByteArray) (a1 : ByteArray) (r : Bool) (w : World) (h : jobshellref45_Begins.f a0 a1 = some r) :
    Calls Tryd.prog 33 #[.string a0, .string a1] w fun e w' => e = .returned (.bool r) ∧ Drawn0 w w' := by
  have H : (if (a0.size : Int) ≤ (a1.size : Int) then (if 0 ≤ (a0.size : Int) then (some ((a1.extract 0 ((a0.size : Int) : Int).toNat).toList == a0.toList)) else (none)) else (some false)) = some r := h
  clear h
  by_cases c3 : (a0.size : Int) ≤ (a1.size : Int)
  · rw [if_pos c3] at H
    have c3b0 : decide ((a0.size : Int) ≤ (a1.size : Int)) = true := decide_eq_true c3
    have c3b1 : decide (a0.size ≤ a1.size) = true := decide_eq_true (Int.ofNat_le.mp c3)
    clear c3
    by_cases c4 : 0 ≤ (a0.size : Int)
    · rw [if_pos c4] at H
      have c4b0 := eq_true c4
      have c4b1 : decide (0 ≤ (a0.size : Int)) = true := decide_eq_true c4
      clear c4
      have c5b0 := eq_true (of_decide_eq_true (by first | (with_reducible assumption) | assumption) : (a0.size : Int) ≤ (a1.size : Int))
      obtain rfl := Option.some.inj H
      go_enter Tryd.func33, Tryd.ntmps33
      go_wp2
      go_ret
      exact ⟨by first | rfl | (simp; done) | (simp [*]; done), by repeat (first | exact Drawn0.refl _ | apply Drawn0.step)⟩
    · rw [if_neg c4] at H
      exact absurd H (by simp)
  · rw [if_neg c3] at H
    have c3b0 : decide ((a0.size : Int) ≤ (a1.size : Int)) = false := decide_eq_false c3
    have c3b1 : decide (a0.size ≤ a1.size) = false := decide_eq_false (fun h => c3 (Int.ofNat_le.mpr h))
    clear c3
    obtain rfl := Option.some.inj H
    go_enter Tryd.func33, Tryd.ntmps33
    go_wp2
    go_ret
    exact ⟨by first | rfl | (simp; done) | (simp [*]; done), by repeat (first | exact Drawn0.refl _ | apply Drawn0.step)⟩

end Go.Proofs.YtklcndfnboieoaaDoor.P
