/- KeymapParses, plain: the program's Parse agrees with the reference's, and the chapter's examples hold. -/
import Derived.Test.YtklcndfnboieoaaDoorK2
import Derived.Test.YtklcndfnboieoaaDoorPx7
import Derived.Test.YtklcndfnboieoaaDoorPx6
import Derived.Test.YtklcndfnboieoaaDoorPx5
namespace Go.Proofs.YtklcndfnboieoaaDoor.K
set_option linter.unusedVariables false
set_option linter.unusedSimpArgs false
open Go Go.RowKit Go.Proofs.YtklcndfnboieoaaDoorW.PrintWords Go.Proofs.YtklcndfnboieoaaDoor.P
open Go.Proofs.YtklcndfnboieoaaDoor.H (keymap_Parse.f keymap_Parse.l0 keymap_Parse.mono)

theorem ite_some {α : Type} {c : Prop} [Decidable c] {a b : Option α} {x y : α} (h : a = some x) (k : b = some y) : (if c then a else b) = some (if c then x else y) := by
  by_cases hc : c
  · rw [if_pos hc, if_pos hc]; exact h
  · rw [if_neg hc, if_neg hc]; exact k
theorem plain_tells (c : Int) : jobshellref45_plain.f c = some (if c = 101 then 27 else if c = 100 then 127 else if c = 116 then 9 else if c = 110 then 10 else if c = 92 then 92 else -1) := by
  unfold jobshellref45_plain.f
  exact ite_some rfl (ite_some rfl (ite_some rfl (ite_some rfl (ite_some rfl rfl))))

/-- What the reference's form gives of a place: an error (which reading from there comes to, too), or some keys and the place behind them. -/
theorem refform_ev (s : ByteArray) (hs : s.size ≤ 140737488351232) : ∀ m a, s.size - a ≤ m → a < s.size →
    (∃ e, e ≠ 0 ∧ Ev (fun k => jobshellref45_form.f k s a) (⟨#[]⟩, 0, e) ∧ Pa s a (.inl e)) ∨
    (∃ (ks : List UInt8) (a' : Nat), Ev (fun k => jobshellref45_form.f k s a) (⟨ks.toArray⟩, (a' : Int), 0) ∧ a < a' ∧ a' ≤ s.size ∧ ks.length ≤ a' - a ∧ ∀ r, Pa s a' r → Pa s a (preR ks r)) := by
  intro m
  induction m with
  | zero => intro a hm ha; omega
  | succ m ih =>
    intro a hm ha
    have one : ∀ k a', stp s a = .inr (k, a') → ∀ r, Pa s a' r → Pa s a (preR [b8 k] r) := fun k a' h r hr => by
      have := Pa.ok ha h hr
      cases r <;> exact this
    have w1 : wrap64 ((a : Int) + 1) = ((a + 1 : Nat) : Int) := by rw [wrap_in] <;> omega
    have w2 : wrap64 ((a : Int) + 2) = ((a + 2 : Nat) : Int) := by rw [wrap_in] <;> omega
    have w3 : wrap64 ((a : Int) + 3) = ((a + 3 : Nat) : Int) := by rw [wrap_in] <;> omega
    have e1 : ¬ (a : Int) = (s.size : Int) := by omega
    have e2 : (0 : Int) ≤ (a : Int) := by omega
    have e3 : (a : Int) < (s.size : Int) := by omega
    have e5 : (0 : Int) ≤ ((a + 1 : Nat) : Int) := by omega
    have e6 : (0 : Int) ≤ ((a + 2 : Nat) : Int) := by omega
    by_cases hc : bt s a = 92
    · by_cases h1 : a + 1 = s.size
      · have g1 : ((a + 1 : Nat) : Int) = (s.size : Int) := by omega
        refine .inl ⟨7, by decide, Ev.shift 1 fun k => ?_, Pa.err ha ?_⟩
        · rw [jobshellref45_form.f, if_neg e1, if_pos e2, if_pos e3, if_pos hc, w1, if_pos g1]
        · unfold stp esc; rw [if_pos hc, if_pos h1]
      have g1 : ¬ ((a + 1 : Nat) : Int) = (s.size : Int) := by omega
      have g3 : ((a + 1 : Nat) : Int) < (s.size : Int) := by omega
      have hstp : stp s a = esc s (a + 1) := by unfold stp; rw [if_pos hc]
      have head : ∀ k, jobshellref45_form.f (k + 1) s a = (if (if bt s (a + 1 : Nat) = 101 then (27 : Int) else if bt s (a + 1 : Nat) = 100 then 127 else if bt s (a + 1 : Nat) = 116 then 9 else if bt s (a + 1 : Nat) = 110 then 10 else if bt s (a + 1 : Nat) = 92 then 92 else -1) ≥ 0 then some (strOfNums [(if bt s (a + 1 : Nat) = 101 then (27 : Int) else if bt s (a + 1 : Nat) = 100 then 127 else if bt s (a + 1 : Nat) = 116 then 9 else if bt s (a + 1 : Nat) = 110 then 10 else if bt s (a + 1 : Nat) = 92 then 92 else -1) % 256], ((a + 2 : Nat) : Int), 0)
          else if bt s (a + 1 : Nat) = 67 then (jobshellref45_control.f k s ((a + 2 : Nat) : Int)).bind fun b => some (b.1, b.2.1, b.2.2)
          else if bt s (a + 1 : Nat) = 120 then (jobshellref45_hex.f k s ((a + 2 : Nat) : Int)).bind fun b => some (b.1, b.2.1, b.2.2)
          else if bt s (a + 1 : Nat) = 77 then (if ((a + 2 : Nat) : Int) < (s.size : Int) then (if (0 : Int) ≤ ((a + 2 : Nat) : Int) then jobshellref45_form.j0 k s a (bt s (a + 2 : Nat) != 45) else none) else jobshellref45_form.j0 k s a false)
          else some (⟨#[]⟩, 0, 6)) := by
        intro k
        rw [jobshellref45_form.f, if_neg e1, if_pos e2, if_pos e3, if_pos hc, w1, if_neg g1, if_pos e5, if_pos g3, plain_tells, Option.bind_some, w2]
      have plain : ∀ c : Int, (c = 27 ∨ c = 127 ∨ c = 9 ∨ c = 10 ∨ c = 92) → (if bt s (a + 1 : Nat) = 101 then (27 : Int) else if bt s (a + 1 : Nat) = 100 then 127 else if bt s (a + 1 : Nat) = 116 then 9 else if bt s (a + 1 : Nat) = 110 then 10 else if bt s (a + 1 : Nat) = 92 then 92 else -1) = c → esc s (a + 1) = .inr (c, a + 2) →
          (∃ (ks : List UInt8) (a' : Nat), Ev (fun k => jobshellref45_form.f k s a) (⟨ks.toArray⟩, (a' : Int), 0) ∧ a < a' ∧ a' ≤ s.size ∧ ks.length ≤ a' - a ∧ ∀ r, Pa s a' r → Pa s a (preR ks r)) := by
        intro c hc2 hp he
        refine ⟨[b8 c], a + 2, Ev.shift 1 fun k => ?_, by omega, by omega, by simp, one c (a + 2) (by rw [hstp, he])⟩
        rw [head, hp, if_pos (by omega), show c % 256 = c by omega, nums_one]
      by_cases p1 : bt s (a + 1 : Nat) = 101
      · exact .inr (plain 27 (by omega) (by rw [if_pos p1]) (by unfold esc; rw [if_neg h1, if_pos p1]))
      by_cases p2 : bt s (a + 1 : Nat) = 100
      · exact .inr (plain 127 (by omega) (by rw [if_neg p1, if_pos p2]) (by unfold esc; rw [if_neg h1, if_neg p1, if_pos p2]))
      by_cases p3 : bt s (a + 1 : Nat) = 116
      · exact .inr (plain 9 (by omega) (by rw [if_neg p1, if_neg p2, if_pos p3]) (by unfold esc; rw [if_neg h1, if_neg p1, if_neg p2, if_pos p3]))
      by_cases p4 : bt s (a + 1 : Nat) = 110
      · exact .inr (plain 10 (by omega) (by rw [if_neg p1, if_neg p2, if_neg p3, if_pos p4]) (by unfold esc; rw [if_neg h1, if_neg p1, if_neg p2, if_neg p3, if_pos p4]))
      by_cases p5 : bt s (a + 1 : Nat) = 92
      · exact .inr (plain 92 (by omega) (by rw [if_neg p1, if_neg p2, if_neg p3, if_neg p4, if_pos p5]) (by unfold esc; rw [if_neg h1, if_neg p1, if_neg p2, if_neg p3, if_neg p4, if_pos p5]))
      have hesc : esc s (a + 1) = (if bt s (a + 1 : Nat) = 67 then ctl s (a + 2) else if bt s (a + 1 : Nat) = 120 then hx s (a + 2)
          else if bt s (a + 1 : Nat) = 77 then (if a + 2 = s.size then .inl 7 else if ¬ bt s (a + 2 : Nat) = 45 then .inl 6 else if a + 3 = s.size then .inl 7 else .inr (27, a + 3)) else .inl 6) := by
        unfold esc ctl hx
        rw [if_neg h1, if_neg p1, if_neg p2, if_neg p3, if_neg p4, if_neg p5]
      have head2 : ∀ k, jobshellref45_form.f (k + 1) s a = (if bt s (a + 1 : Nat) = 67 then (jobshellref45_control.f k s ((a + 2 : Nat) : Int)).bind fun b => some (b.1, b.2.1, b.2.2)
          else if bt s (a + 1 : Nat) = 120 then (jobshellref45_hex.f k s ((a + 2 : Nat) : Int)).bind fun b => some (b.1, b.2.1, b.2.2)
          else if bt s (a + 1 : Nat) = 77 then (if ((a + 2 : Nat) : Int) < (s.size : Int) then (if (0 : Int) ≤ ((a + 2 : Nat) : Int) then jobshellref45_form.j0 k s a (bt s (a + 2 : Nat) != 45) else none) else jobshellref45_form.j0 k s a false)
          else some (⟨#[]⟩, 0, 6)) := by
        intro k
        rw [head, if_neg p1, if_neg p2, if_neg p3, if_neg p4, if_neg p5, if_neg (by decide)]
      have fine := esc_fine s (a + 1) (by omega)
      have simple : ∀ r, esc s (a + 1) = r → Ev (fun k => jobshellref45_form.f k s a) (out r) →
          (∃ e, e ≠ 0 ∧ Ev (fun k => jobshellref45_form.f k s a) (⟨#[]⟩, 0, e) ∧ Pa s a (.inl e)) ∨
          (∃ (ks : List UInt8) (a' : Nat), Ev (fun k => jobshellref45_form.f k s a) (⟨ks.toArray⟩, (a' : Int), 0) ∧ a < a' ∧ a' ≤ s.size ∧ ks.length ≤ a' - a ∧ ∀ r, Pa s a' r → Pa s a (preR ks r)) := by
        intro r hr hev
        rcases r with e | ⟨k, a'⟩
        · exact .inl ⟨e, fine.1 e hr, hev, Pa.err ha (by rw [hstp, hr])⟩
        · have := fine.2 k a' hr
          exact .inr ⟨[b8 k], a', hev, by omega, by omega, by simp; omega, one k a' (by rw [hstp, hr])⟩
      by_cases q1 : bt s (a + 1 : Nat) = 67
      · refine simple _ (by rw [hesc, if_pos q1]) (Ev.shift 2 fun k => ?_)
        rw [head2, if_pos q1, ctl_ev s (a + 2) (by omega) hs, Option.bind_some]
      by_cases q2 : bt s (a + 1 : Nat) = 120
      · refine simple _ (by rw [hesc, if_neg q1, if_pos q2]) (Ev.shift 5 fun k => ?_)
        rw [head2, if_neg q1, if_pos q2, hx_ev s (a + 2) (by omega) hs, Option.bind_some]
      by_cases q3 : bt s (a + 1 : Nat) = 77
      · by_cases h2 : a + 2 = s.size
        · refine simple (.inl 7) (by rw [hesc, if_neg q1, if_neg q2, if_pos q3, if_pos h2]) (Ev.shift 2 fun k => ?_)
          have g4 : ¬ ((a + 2 : Nat) : Int) < (s.size : Int) := by omega
          have g5 : ((a + 2 : Nat) : Int) = (s.size : Int) := by omega
          rw [head2, if_neg q1, if_neg q2, if_pos q3, if_neg g4, jobshellref45_form.j0, if_neg (by decide), w2, if_pos g5]
          rfl
        have g4 : ((a + 2 : Nat) : Int) < (s.size : Int) := by omega
        have g5 : ¬ ((a + 2 : Nat) : Int) = (s.size : Int) := by omega
        by_cases q4 : bt s (a + 2 : Nat) = 45
        · have q4b : (bt s (a + 2 : Nat) != 45) = false := bne_eq_false_iff_eq.2 q4
          have step : ∀ k, jobshellref45_form.f (k + 2) s a = (jobshellref45_form.f k s ((a + 3 : Nat) : Int)).bind fun b => if b.2.2 = 0 then (if 1 + b.1.size ≤ 9223372036854775807 then some ((⟨#[27]⟩ : ByteArray) ++ b.1, b.2.1, 0) else none) else some (⟨#[]⟩, 0, b.2.2) := by
            intro k
            rw [head2, if_neg q1, if_neg q2, if_pos q3, if_pos g4, if_pos e6, q4b, jobshellref45_form.j0, if_neg (by decide), w2, if_neg g5, w3]
          by_cases h3 : a + 3 = s.size
          · refine simple (.inl 7) (by rw [hesc, if_neg q1, if_neg q2, if_pos q3, if_neg h2, if_neg (fun h => h q4), if_pos h3]) (Ev.shift 3 fun k => ?_)
            have g6 : ((a + 3 : Nat) : Int) = (s.size : Int) := by omega
            rw [step, jobshellref45_form.f, if_pos g6]
            rfl
          · have hst : stp s a = .inr (27, a + 3) := by rw [hstp, hesc, if_neg q1, if_neg q2, if_pos q3, if_neg h2, if_neg (fun h => h q4), if_neg h3]
            rcases ih (a + 3) (by omega) (by omega) with ⟨e, he, hev, hpa⟩ | ⟨ks, a', hev, h4, h5, h6, hpa⟩
            · refine .inl ⟨e, he, Ev.shiftE 2 step (Ev.bind hev (Ev.congr (fun k => by rw [if_neg he]) (Ev.now _))), ?_⟩
              have := Pa.ok ha hst hpa
              exact this
            · refine .inr ⟨b8 27 :: ks, a', Ev.shiftE 2 step (Ev.bind hev (Ev.congr (fun k => ?_) (Ev.now _))), by omega, h5, by simp; omega, fun r hr => ?_⟩
              · have hz := arr_size ks
                dsimp only
                rw [if_pos rfl, if_pos (by rw [hz]; omega)]
                rw [show (⟨#[27]⟩ : ByteArray) = ⟨[b8 27].toArray⟩ from rfl, arr_append]
                rfl
              · have := Pa.ok ha hst (hpa r hr)
                cases r <;> exact this
        · have q4b : (bt s (a + 2 : Nat) != 45) = true := bne_iff_ne.2 q4
          refine simple (.inl 6) (by rw [hesc, if_neg q1, if_neg q2, if_pos q3, if_neg h2, if_pos q4]) (Ev.shift 2 fun k => ?_)
          rw [head2, if_neg q1, if_neg q2, if_pos q3, if_pos g4, if_pos e6, q4b, jobshellref45_form.j0, if_pos rfl]
          rfl
      · refine simple (.inl 6) (by rw [hesc, if_neg q1, if_neg q2, if_neg q3]) (Ev.shift 1 fun k => ?_)
        rw [head2, if_neg q1, if_neg q2, if_neg q3]
        rfl
    · refine .inr ⟨[b8 (bt s a)], a + 1, Ev.shift 1 fun k => ?_, by omega, by omega, by simp, one (bt s a) (a + 1) (by unfold stp; rw [if_neg hc])⟩
      have g7 : (a : Int) ≤ ((a + 1 : Nat) : Int) := by omega
      have g8 : ((a + 1 : Nat) : Int) ≤ (s.size : Int) := by omega
      rw [jobshellref45_form.f, if_neg e1, if_pos e2, if_pos e3, if_neg hc, w1, if_pos g7, if_pos g8]
      simp only [Int.toNat_natCast]
      rw [cut_one s a ha]

theorem refparse_ev (s : ByteArray) (hs : s.size ≤ 140737488351232) : ∀ m a, s.size - a ≤ m → a ≤ s.size →
    ∃ r, Pa s a r ∧ ∀ (acc : List UInt8) (i : Nat), i ≤ a → acc.length ≤ a → Ev (fun k => jobshellref45_Parse.l0 k s ⟨acc.toArray⟩ a i) (fin acc r) := by
  intro m
  induction m with
  | zero =>
    intro a hm ha
    obtain rfl : a = s.size := by omega
    refine ⟨.inr [], Pa.nil, fun acc i hi hacc => Ev.shift 2 fun k => ?_⟩
    have g1 : (i : Int) ≤ (s.size : Int) := by omega
    rw [jobshellref45_Parse.l0, if_pos g1, decide_eq_false (by omega), jobshellref45_Parse.j1, if_neg (by decide), arr_size]
    simp only [fin, List.append_nil]
    split <;> rfl
  | succ m ih =>
    intro a hm ha
    by_cases hlt : a < s.size
    · rcases refform_ev s hs _ a (Nat.le_refl _) hlt with ⟨e, he, hev, hpa⟩ | ⟨ks, a', hev, h4, h5, h6, hpa⟩
      · refine ⟨.inl e, hpa, fun acc i hi hacc => ?_⟩
        have g1 : (i : Int) ≤ (s.size : Int) := by omega
        refine Ev.shiftE 2 (f := fun k => (jobshellref45_form.f k s a).bind fun b => if b.2.2 = 0 then (if (⟨acc.toArray⟩ : ByteArray).size + b.1.size ≤ 9223372036854775807 then jobshellref45_Parse.l0 k s (⟨acc.toArray⟩ ++ b.1) b.2.1 (wrap64 ((i : Int) + 1)) else none) else some (⟨#[]⟩, b.2.2)) (fun k => ?_) ?_
        · rw [jobshellref45_Parse.l0, if_pos g1, decide_eq_true (by omega), jobshellref45_Parse.j1, if_pos rfl]
        · exact Ev.bind hev (Ev.congr (fun k => by rw [if_neg he]; rfl) (Ev.now _))
      · obtain ⟨r, hr, hl⟩ := ih a' (by omega) h5
        refine ⟨preR ks r, hpa r hr, fun acc i hi hacc => ?_⟩
        have g1 : (i : Int) ≤ (s.size : Int) := by omega
        refine Ev.shiftE 2 (f := fun k => (jobshellref45_form.f k s a).bind fun b => if b.2.2 = 0 then (if (⟨acc.toArray⟩ : ByteArray).size + b.1.size ≤ 9223372036854775807 then jobshellref45_Parse.l0 k s (⟨acc.toArray⟩ ++ b.1) b.2.1 (wrap64 ((i : Int) + 1)) else none) else some (⟨#[]⟩, b.2.2)) (fun k => ?_) ?_
        · rw [jobshellref45_Parse.l0, if_pos g1, decide_eq_true (by omega), jobshellref45_Parse.j1, if_pos rfl]
        · rw [fin_pre]
          refine Ev.bind hev (Ev.congr (fun k => ?_) (hl (acc ++ ks) (i + 1) (by omega) (by simp; omega)))
          have hz := arr_size ks
          have hz2 := arr_size acc
          dsimp only
          rw [if_pos rfl, if_pos (by rw [hz, hz2]; omega), arr_append, wrap_in (by omega) (by omega)]
          rfl
    · obtain rfl : a = s.size := by omega
      refine ⟨.inr [], Pa.nil, fun acc i hi hacc => Ev.shift 2 fun k => ?_⟩
      have g1 : (i : Int) ≤ (s.size : Int) := by omega
      rw [jobshellref45_Parse.l0, if_pos g1, decide_eq_false (by omega), jobshellref45_Parse.j1, if_neg (by decide), arr_size]
      simp only [fin, List.append_nil]
      split <;> rfl

theorem cut_all (s : ByteArray) : s.extract 0 s.size = s := by simp
/-- Both come to one result. -/
theorem both_parse (s : ByteArray) (hs : s.size ≤ 140737488351232) : ∃ r, Pa s 0 r ∧ Ev (fun k => keymap_Parse.f k s) (fin [] r) ∧ Ev (fun k => jobshellref45_Parse.f k s) (fin [] r) := by
  obtain ⟨r, hr, hl⟩ := refparse_ev s hs _ 0 (Nat.le_refl _) (by omega)
  refine ⟨r, hr, ?_, ?_⟩
  · have h := parse_ev s hs hr [] (by simp; omega)
    refine Ev.congr (fun k => ?_) h
    unfold keymap_Parse.f
    rw [if_pos hs, cut_all]
  · exact Ev.congr (fun k => rfl) (hl [] 0 (by omega) (by simp))

theorem awake_ev : Ev (fun k => jobshelllaw45_awake.f k) true := Ev.of (fun k => jobshelllaw45_awake.mono k) (k := 200) (by decide +kernel)

theorem KeymapParses : jobshelllaw45_KeymapParses.Pure := by
  intro s hs
  refine Ev.rounds ?_
  unfold jobshelllaw45_KeymapParses.f
  by_cases hz : (s.size : Int) > 500
  · exact Ev.congr (fun k => if_pos hz) (Ev.bind awake_ev (Ev.now _))
  · refine Ev.congr (fun k => if_neg hz) ?_
    obtain ⟨r, _, h1, h2⟩ := both_parse s hs
    refine Ev.bind h1 (Ev.bind h2 (Ev.congr (fun k => ?_) (Ev.bind awake_ev (Ev.now _))))
    rw [if_pos rfl, if_pos rfl]
end Go.Proofs.YtklcndfnboieoaaDoor.K
