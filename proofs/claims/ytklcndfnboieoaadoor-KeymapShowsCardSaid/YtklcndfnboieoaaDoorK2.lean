/- Both readers of a keymap's notation agree: the program's and the reference's come to one result. -/
import Derived.Test.YtklcndfnboieoaaDoorK1
import Derived.Test.YtklcndfnboieoaaDoorPx7
import Derived.Test.YtklcndfnboieoaaDoorPx6
import Derived.Test.YtklcndfnboieoaaDoorPx5
namespace Go.Proofs.YtklcndfnboieoaaDoor.K
set_option linter.unusedVariables false
set_option linter.unusedSimpArgs false
open Go Go.RowKit Go.Proofs.YtklcndfnboieoaaDoorW.PrintWords
open Go.Proofs.YtklcndfnboieoaaDoor.H (keymap_form.f keymap_Parse.f keymap_Parse.l0)

theorem parse_ev (s : ByteArray) (hs : s.size ≤ 140737488351232) {a : Nat} {r : Int ⊕ List UInt8} (h : Pa s a r) :
    ∀ acc : List UInt8, acc.length + (s.size - a) ≤ 140737488351232 → Ev (fun k => keymap_Parse.l0 k (s.extract a s.size) acc) (fin acc r) := by
  induction h with
  | nil =>
    intro acc _
    have hn : (s.extract s.size s.size).toList = [] := nil_size.2 (by rw [size_cut]; omega)
    refine Ev.shift 1 fun k => ?_
    rw [keymap_Parse.l0, if_pos hn]
    simp only [fin, List.append_nil]
    split <;> rfl
  | @err a e ha he =>
    intro acc hacc
    have hn : ¬ (s.extract a s.size).toList = [] := fun h => by have := nil_size.1 h; rw [size_cut] at this; omega
    have hb : bt (s.extract a s.size) 0 = bt s a := by have := bt_cut s a 0 (by omega); simpa using this
    unfold stp at he
    by_cases hc : bt s a = 92
    · rw [if_pos hc] at he
      have h1 := form_ev s (a + 1) (by omega) hs
      rw [he] at h1
      obtain ⟨x, y, h1⟩ := h1
      have hne := (esc_fine s (a + 1) (by omega)).1 e he
      refine Ev.shiftE 1 (f := fun k => (keymap_form.f k (s.extract (a + 1) s.size)).bind fun t => if t.2.2 = 0 then (if 0 ≤ t.1 ∧ t.1 ≤ 255 ∧ 0 ≤ t.2.1 ∧ 1 + t.2.1 ≤ (s.extract a s.size).size then keymap_Parse.l0 k ((s.extract a s.size).extract (1 + t.2.1).toNat (s.extract a s.size).size) (acc ++ [H.b8 t.1]) else none) else some (⟨#[]⟩, t.2.2)) (fun k => ?_) ?_
      · rw [keymap_Parse.l0, if_neg hn, if_pos (by omega), hb, if_pos hc, cut_cut]
      · exact Ev.bind h1 (Ev.congr (fun k => by rw [if_neg hne]; rfl) (Ev.now _))
    · rw [if_neg hc] at he
      cases he
  | @ok a a' k r ha he _ ih =>
    intro acc hacc
    have hn : ¬ (s.extract a s.size).toList = [] := fun h => by have := nil_size.1 h; rw [size_cut] at this; omega
    have hb : bt (s.extract a s.size) 0 = bt s a := by have := bt_cut s a 0 (by omega); simpa using this
    have hp := (stp_fine s a ha).2 k a' he
    have ih' := ih (acc ++ [b8 k]) (by simp; omega)
    rw [fin_cons]
    unfold stp at he
    by_cases hc : bt s a = 92
    · rw [if_pos hc] at he
      have h1 := form_ev s (a + 1) (by omega) hs
      rw [he] at h1
      have h2 : Ev (fun q => keymap_form.f q (s.extract (a + 1) s.size)) (k, ((a' - (a + 1) : Nat) : Int), 0) := h1
      have hp2 := (esc_fine s (a + 1) (by omega)).2 k a' he
      refine Ev.shiftE 1 (f := fun k => (keymap_form.f k (s.extract (a + 1) s.size)).bind fun t => if t.2.2 = 0 then (if 0 ≤ t.1 ∧ t.1 ≤ 255 ∧ 0 ≤ t.2.1 ∧ 1 + t.2.1 ≤ (s.extract a s.size).size then keymap_Parse.l0 k ((s.extract a s.size).extract (1 + t.2.1).toNat (s.extract a s.size).size) (acc ++ [H.b8 t.1]) else none) else some (⟨#[]⟩, t.2.2)) (fun k => ?_) ?_
      · rw [keymap_Parse.l0, if_neg hn, if_pos (by omega), hb, if_pos hc, cut_cut]
      · refine Ev.bind h2 (Ev.congr (fun q => ?_) ih')
        have hz := size_cut s a
        have hcond : 0 ≤ k ∧ k ≤ 255 ∧ 0 ≤ ((a' - (a + 1) : Nat) : Int) ∧ 1 + ((a' - (a + 1) : Nat) : Int) ≤ ((s.extract a s.size).size : Int) := by omega
        dsimp only
        rw [if_pos rfl, if_pos hcond, show (1 + ((a' - (a + 1) : Nat) : Int)).toNat = a' - a by omega, cut_cut, show a + (a' - a) = a' by omega]
        rfl
    · rw [if_neg hc] at he
      injection he with he
      injection he with h1 h2
      subst h1 h2
      refine Ev.shiftE 1 (fun q => ?_) ih'
      rw [keymap_Parse.l0, if_neg hn, if_pos (by omega), hb, if_neg hc, cut_cut]
      rfl

/-! ### the reference's reader -/
open Go.Proofs.YtklcndfnboieoaaDoor.P

theorem digit_ev (c : Int) (h0 : 0 ≤ c) (h1 : c ≤ 255) : ∀ k, jobshellref45_digit.f (k + 1) c = some (digI c) := by
  intro k
  unfold jobshellref45_digit.f
  by_cases g1 : c ≥ 48
  · rw [if_pos g1]
    by_cases g2 : c ≤ 57
    · have hd : digI c = c - 48 := by unfold digI; rw [if_pos ⟨g1, g2⟩]
      rw [decide_eq_true g2, jobshellref45_digit.j0, if_pos rfl, hd]
      congr 1
      omega
    · rw [decide_eq_false g2, jobshellref45_digit.j0, if_neg (by decide)]
      by_cases g3 : c ≥ 97
      · rw [if_pos g3]
        by_cases g4 : c ≤ 102
        · have hd : digI c = c - 87 := by unfold digI; rw [if_neg (by omega), if_pos ⟨g3, g4⟩]
          rw [if_pos g4, hd]
          congr 1
          omega
        · have hd : digI c = -1 := by unfold digI; rw [if_neg (by omega), if_neg (by omega)]
          rw [if_neg g4, hd]
      · have hd : digI c = -1 := by unfold digI; rw [if_neg (by omega), if_neg (by omega)]
        rw [if_neg g3, hd]
  · have hd : digI c = -1 := by unfold digI; rw [if_neg (by omega), if_neg (by omega)]
    rw [if_neg g1, jobshellref45_digit.j0, if_neg (by decide), if_neg (by omega), hd]

/-- What the reference's control and hex give of a place. -/
def ctl (s : ByteArray) (a : Nat) : Int ⊕ (Int × Nat) := if a = s.size then .inl 7 else if ¬ bt s a = 45 then .inl 6 else if a + 1 = s.size then .inl 7 else if bt s (a + 1 : Nat) < 97 then .inl 6 else if bt s (a + 1 : Nat) > 122 then .inl 6 else .inr (bt s (a + 1 : Nat) - 96, a + 2)
def hx (s : ByteArray) (a : Nat) : Int ⊕ (Int × Nat) := if a = s.size then .inl 7 else if digI (bt s a) < 0 then .inl 6 else if a + 1 = s.size then .inl 7 else if digI (bt s (a + 1 : Nat)) < 0 then .inl 6 else .inr (16 * digI (bt s a) + digI (bt s (a + 1 : Nat)), a + 2)
def out (r : Int ⊕ (Int × Nat)) : ByteArray × Int × Int := match r with | .inl e => (⟨#[]⟩, 0, e) | .inr (k, a) => (⟨[b8 k].toArray⟩, (a : Int), 0)
theorem ctl_ev (s : ByteArray) (a : Nat) (ha : a ≤ s.size) (hs : s.size ≤ 140737488351232) : ∀ k, jobshellref45_control.f (k + 1) s a = some (out (ctl s a)) := by
  intro k
  have w1 : wrap64 ((a : Int) + 1) = ((a + 1 : Nat) : Int) := by rw [wrap_in] <;> omega
  have w2 : wrap64 ((a : Int) + 2) = ((a + 2 : Nat) : Int) := by rw [wrap_in] <;> omega
  have br := bt_range s (a + 1 : Nat)
  unfold jobshellref45_control.f ctl
  by_cases g1 : a = s.size
  · have e1 : (a : Int) = (s.size : Int) := by omega
    rw [if_pos g1, if_pos e1, jobshellref45_control.j0, if_pos rfl]; rfl
  have e1 : ¬ (a : Int) = (s.size : Int) := by omega
  have e2 : (0 : Int) ≤ (a : Int) := by omega
  have e3 : (a : Int) < (s.size : Int) := by omega
  rw [if_neg g1, if_neg e1, if_pos e2, if_pos e3]
  by_cases g2 : bt s a = 45
  · rw [if_pos g2, if_neg (show ¬ ¬ bt s a = 45 from fun h => h g2), w1]
    by_cases g3 : a + 1 = s.size
    · have e4 : (((a + 1 : Nat) : Int) == (s.size : Int)) = true := beq_iff_eq.2 (by omega)
      rw [if_pos g3, e4, jobshellref45_control.j0, if_pos rfl]; rfl
    · have e4 : (((a + 1 : Nat) : Int) == (s.size : Int)) = false := beq_eq_false_iff_ne.2 (by omega)
      have e5 : (0 : Int) ≤ ((a + 1 : Nat) : Int) := by omega
      have e6 : ((a + 1 : Nat) : Int) < (s.size : Int) := by omega
      rw [if_neg g3, e4, jobshellref45_control.j0, if_neg (by decide), if_pos e2, if_pos e3, if_pos g2, w1, if_pos e5, if_pos e6, w2]
      by_cases g4 : bt s (a + 1 : Nat) < 97
      · rw [if_pos g4, if_pos g4]; rfl
      rw [if_neg g4, if_neg g4]
      by_cases g5 : bt s (a + 1 : Nat) > 122
      · rw [if_pos g5, if_pos g5]; rfl
      rw [if_neg g5, if_neg g5, nums_one, show ((bt s (a + 1 : Nat) - 97) % 256 + 1) % 256 = bt s (a + 1 : Nat) - 96 by omega]; rfl
  · rw [if_neg g2, if_pos g2, jobshellref45_control.j0, if_neg (by decide), if_pos e2, if_pos e3, if_neg g2]; rfl
theorem hx_ev (s : ByteArray) (a : Nat) (ha : a ≤ s.size) (hs : s.size ≤ 140737488351232) : ∀ k, jobshellref45_hex.f (k + 4) s a = some (out (hx s a)) := by
  intro k
  have w1 : wrap64 ((a : Int) + 1) = ((a + 1 : Nat) : Int) := by rw [wrap_in] <;> omega
  have w1' : wrap64 (((a + 1 : Nat) : Int) + 1) = ((a + 2 : Nat) : Int) := by rw [wrap_in] <;> omega
  have w2 : wrap64 ((a : Int) + 2) = ((a + 2 : Nat) : Int) := by rw [wrap_in] <;> omega
  have br0 := bt_range s a
  have br := bt_range s (a + 1 : Nat)
  have dr0 := digI_range (bt s a)
  have dr1 := digI_range (bt s (a + 1 : Nat))
  have e0 : (a : Int) < ((a + 2 : Nat) : Int) := by omega
  have e0' : ((a + 1 : Nat) : Int) < ((a + 2 : Nat) : Int) := by omega
  have e0'' : ¬ ((a + 2 : Nat) : Int) < ((a + 2 : Nat) : Int) := by omega
  have e2 : (0 : Int) ≤ (a : Int) := by omega
  have e5 : (0 : Int) ≤ ((a + 1 : Nat) : Int) := by omega
  unfold jobshellref45_hex.f hx
  rw [jobshellref45_hex.l0, w2, if_pos e0]
  by_cases g1 : a = s.size
  · have e1 : (a : Int) = (s.size : Int) := by omega
    rw [if_pos g1, if_pos e1]; rfl
  have e1 : ¬ (a : Int) = (s.size : Int) := by omega
  have e3 : (a : Int) < (s.size : Int) := by omega
  rw [if_neg g1, if_neg e1, if_pos e2, if_pos e3, digit_ev _ br0.1 br0.2, Option.bind_some]
  by_cases g2 : digI (bt s a) < 0
  · rw [if_pos g2, if_pos g2]; rfl
  rw [if_neg g2, if_neg g2, w1, jobshellref45_hex.l0, w2, if_pos e0']
  by_cases g3 : a + 1 = s.size
  · have e4 : ((a + 1 : Nat) : Int) = (s.size : Int) := by omega
    rw [if_pos g3, if_pos e4]; rfl
  have e4 : ¬ ((a + 1 : Nat) : Int) = (s.size : Int) := by omega
  have e6 : ((a + 1 : Nat) : Int) < (s.size : Int) := by omega
  rw [if_neg g3, if_neg e4, if_pos e5, if_pos e6, digit_ev _ br.1 br.2, Option.bind_some]
  by_cases g4 : digI (bt s (a + 1 : Nat)) < 0
  · rw [if_pos g4, if_pos g4]; rfl
  rw [if_neg g4, if_neg g4, w1', jobshellref45_hex.l0, w2, if_neg e0'', if_pos e2, if_pos e3, digit_ev _ br0.1 br0.2, Option.bind_some, w1, if_pos e5, if_pos e6, digit_ev _ br.1 br.2, Option.bind_some, nums_one]
  rw [wrap_in (x := 16 * _) (by omega) (by omega), wrap_in (by omega) (by omega), show (16 * digI (bt s a) + digI (bt s (a + 1 : Nat))) % 256 = 16 * digI (bt s a) + digI (bt s (a + 1 : Nat)) by omega]
  rfl
end Go.Proofs.YtklcndfnboieoaaDoor.K
