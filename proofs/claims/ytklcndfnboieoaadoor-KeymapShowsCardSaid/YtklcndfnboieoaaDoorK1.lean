/- Both readers of a keymap's notation (the program's and the reference's) come to what one step of reading, over and over, gives. -/
import Derived.Test.YtklcndfnboieoaaDoorK0
import Derived.Test.YtklcndfnboieoaaDoorPx7
import Derived.Test.YtklcndfnboieoaaDoorPx6
import Derived.Test.YtklcndfnboieoaaDoorPx5
import Derived.Test.YtklcndfnboieoaaDoorH2
namespace Go.Proofs.YtklcndfnboieoaaDoor.K
set_option linter.unusedVariables false
set_option linter.unusedSimpArgs false
open Go Go.RowKit Go.Proofs.YtklcndfnboieoaaDoorW.PrintWords
open Go.Proofs.YtklcndfnboieoaaDoor.H (keymap_form.f keymap_Parse.f keymap_Parse.l0 formRest keymap_form.mono keymap_Parse.mono keymap_Parse.mono_l)

def digI (c : Int) : Int := if 48 ≤ c ∧ c ≤ 57 then c - 48 else if 97 ≤ c ∧ c ≤ 102 then c - 87 else -1
theorem digI_range (c : Int) : -1 ≤ digI c ∧ digI c ≤ 15 := by unfold digI; split <;> (try split) <;> omega

/-- What stands behind a backslash: an error, or a key and the place behind it. -/
def esc (s : ByteArray) (a : Nat) : Int ⊕ (Int × Nat) :=
  if a = s.size then .inl 7
  else if bt s a = 101 then .inr (27, a + 1) else if bt s a = 100 then .inr (127, a + 1) else if bt s a = 116 then .inr (9, a + 1) else if bt s a = 110 then .inr (10, a + 1) else if bt s a = 92 then .inr (92, a + 1)
  else if bt s a = 67 then (if a + 1 = s.size then .inl 7 else if ¬ bt s (a + 1 : Nat) = 45 then .inl 6 else if a + 2 = s.size then .inl 7 else if bt s (a + 2 : Nat) < 97 then .inl 6 else if bt s (a + 2 : Nat) > 122 then .inl 6 else .inr (bt s (a + 2 : Nat) - 96, a + 3))
  else if bt s a = 120 then (if a + 1 = s.size then .inl 7 else if digI (bt s (a + 1 : Nat)) < 0 then .inl 6 else if a + 2 = s.size then .inl 7 else if digI (bt s (a + 2 : Nat)) < 0 then .inl 6 else .inr (16 * digI (bt s (a + 1 : Nat)) + digI (bt s (a + 2 : Nat)), a + 3))
  else if bt s a = 77 then (if a + 1 = s.size then .inl 7 else if ¬ bt s (a + 1 : Nat) = 45 then .inl 6 else if a + 2 = s.size then .inl 7 else .inr (27, a + 2))
  else .inl 6
/-- One step of reading. -/
def stp (s : ByteArray) (a : Nat) : Int ⊕ (Int × Nat) := if bt s a = 92 then esc s (a + 1) else .inr (bt s a, a + 1)
def Fine (n a : Nat) (r : Int ⊕ (Int × Nat)) : Prop := (∀ e, r = .inl e → e ≠ 0) ∧ ∀ k a', r = .inr (k, a') → a < a' ∧ a' ≤ n ∧ 0 ≤ k ∧ k ≤ 255
theorem Fine.ite {n a : Nat} {c : Prop} [Decidable c] {x y : Int ⊕ (Int × Nat)} (h : c → Fine n a x) (k : ¬ c → Fine n a y) : Fine n a (if c then x else y) := by
  by_cases hc : c
  · rw [if_pos hc]; exact h hc
  · rw [if_neg hc]; exact k hc
theorem Fine.inl {n a : Nat} {e : Int} (h : e ≠ 0) : Fine n a (.inl e) := ⟨fun _ he => (by cases he; exact h), fun _ _ he => (by cases he)⟩
theorem Fine.inr {n a a' : Nat} {k : Int} (h : a < a' ∧ a' ≤ n ∧ 0 ≤ k ∧ k ≤ 255) : Fine n a (.inr (k, a')) := ⟨fun _ he => (by cases he), fun _ _ he => (by cases he; exact h)⟩
theorem esc_fine (s : ByteArray) (a : Nat) (ha : a ≤ s.size) : Fine s.size a (esc s a) := by
  have r0 := digI_range (bt s (a + 1 : Nat))
  have r1 := digI_range (bt s (a + 2 : Nat))
  have b2 := bt_range s (a + 2 : Nat)
  unfold esc
  repeat' (with_reducible refine Fine.ite (fun _ => ?_) (fun _ => ?_))
  all_goals first
    | (with_reducible refine Fine.inl ?_; decide)
    | (with_reducible refine Fine.inr ?_; omega)
theorem stp_fine (s : ByteArray) (a : Nat) (ha : a < s.size) : Fine s.size a (stp s a) := by
  have b := bt_range s a
  unfold stp
  refine Fine.ite (fun _ => ?_) (fun _ => ?_)
  · have h := esc_fine s (a + 1) (by omega)
    exact ⟨h.1, fun k a' e => by have := h.2 k a' e; omega⟩
  · exact Fine.inr (by omega)
def consR (k : Int) : Int ⊕ List UInt8 → Int ⊕ List UInt8
  | .inl e => .inl e
  | .inr l => .inr (b8 k :: l)
def preR (ks : List UInt8) : Int ⊕ List UInt8 → Int ⊕ List UInt8
  | .inl e => .inl e
  | .inr l => .inr (ks ++ l)
/-- What reading from a place on comes to. -/
inductive Pa (s : ByteArray) : Nat → (Int ⊕ List UInt8) → Prop
  | nil : Pa s s.size (.inr [])
  | err {a : Nat} {e : Int} : a < s.size → stp s a = .inl e → Pa s a (.inl e)
  | ok {a a' : Nat} {k : Int} {r : Int ⊕ List UInt8} : a < s.size → stp s a = .inr (k, a') → Pa s a' r → Pa s a (consR k r)
def fin (acc : List UInt8) : Int ⊕ List UInt8 → ByteArray × Int
  | .inl e => (⟨#[]⟩, e)
  | .inr l => if ((acc ++ l).length : Int) > 16 then (⟨#[]⟩, 3) else (⟨(acc ++ l).toArray⟩, 0)
theorem fin_cons (acc : List UInt8) (k : Int) (r : Int ⊕ List UInt8) : fin acc (consR k r) = fin (acc ++ [b8 k]) r := by
  cases r <;> simp [fin, consR]
theorem fin_pre (acc ks : List UInt8) (r : Int ⊕ List UInt8) : fin acc (preR ks r) = fin (acc ++ ks) r := by
  cases r <;> simp [fin, preR]

theorem w11 : wrap64 1 = 1 := wrap_in (by omega) (by omega)
/-! ### the program's reader -/
section
open Go.Proofs.YtklcndfnboieoaaDoor.PKeymapParses
theorem hex_ev (c : Int) (h0 : 0 ≤ c) (h1 : c ≤ 255) : ∀ k, keymap_hex.f (k + 1) c = some (if digI c < 0 then (0, false) else (digI c, true)) := by
  intro k
  unfold keymap_hex.f
  by_cases g1 : c ≥ 48
  · rw [if_pos g1]
    by_cases g2 : c ≤ 57
    · have hd : digI c = c - 48 := by unfold digI; rw [if_pos ⟨g1, g2⟩]
      rw [decide_eq_true g2, keymap_hex.j0, if_pos rfl, hd, if_neg (by omega)]
      congr 2
      omega
    · rw [decide_eq_false g2, keymap_hex.j0, if_neg (by decide)]
      by_cases g3 : c ≥ 97
      · rw [if_pos g3]
        by_cases g4 : c ≤ 102
        · have hd : digI c = c - 87 := by unfold digI; rw [if_neg (by omega), if_pos ⟨g3, g4⟩]
          rw [if_pos g4, hd, if_neg (by omega)]
          congr 2
          omega
        · have hd : digI c = -1 := by unfold digI; rw [if_neg (by omega), if_neg (by omega)]
          rw [if_neg g4, hd, if_pos (by omega)]
      · have hd : digI c = -1 := by unfold digI; rw [if_neg (by omega), if_neg (by omega)]
        rw [if_neg g3, hd, if_pos (by omega)]
  · have hd : digI c = -1 := by unfold digI; rw [if_neg (by omega), if_neg (by omega)]
    rw [if_neg g1, keymap_hex.j0, if_neg (by decide), if_neg (by omega), hd, if_pos (by omega)]
/-- What keymap.form gives of a string that is cut from a place on, where it reads a key, and where not. -/
theorem form_ev (s : ByteArray) (a : Nat) (ha : a ≤ s.size) (hs : s.size ≤ 140737488351232) :
    match esc s a with
    | .inl e => ∃ x y, Ev (fun k => keymap_form.f k (s.extract a s.size)) (x, y, e)
    | .inr (k, a') => Ev (fun q => keymap_form.f q (s.extract a s.size)) (k, ((a' - a : Nat) : Int), 0) := by
  have hz := size_cut s a
  have hb0 : a < s.size → bt (s.extract a s.size) 0 = bt s a := fun h => by have := bt_cut s a 0 (by omega); simpa using this
  have hc1 : (s.extract a s.size).extract 1 (s.extract a s.size).size = s.extract (a + 1) s.size := cut_cut s a 1
  have hz1 := size_cut s (a + 1)
  have hd0 : a + 1 < s.size → bt (s.extract (a + 1) s.size) 0 = bt s (a + 1 : Nat) := fun h => by have := bt_cut s (a + 1) 0 (by omega); simpa using this
  have hd1 : a + 2 < s.size → bt (s.extract (a + 1) s.size) 1 = bt s (a + 2 : Nat) := fun h => by have := bt_cut s (a + 1) 1 (by omega); rwa [show a + 1 + 1 = a + 2 by omega] at this
  have hb1 : a + 1 < s.size → bt (s.extract a s.size) 1 = bt s (a + 1 : Nat) := fun h => by have := bt_cut s a 1 (by omega); simpa using this
  unfold esc keymap_form.f
  by_cases h1 : a = s.size
  · rw [if_pos h1]
    exact ⟨0, 0, Ev.shift 0 fun k => by rw [if_pos (nil_size.2 (by omega))]⟩
  rw [if_neg h1]
  have hn : ¬ (s.extract a s.size).toList = [] := fun h => h1 (by have := nil_size.1 h; omega)
  have hb := hb0 (by omega)
  simp only [if_neg hn, hb]
  by_cases g : bt s a = 101
  · simp only [if_pos g]; exact Ev.shift 0 fun k => by simp
  simp only [if_neg g]
  by_cases g : bt s a = 100
  · simp only [if_pos g]; exact Ev.shift 0 fun k => by simp
  simp only [if_neg g]
  by_cases g : bt s a = 116
  · simp only [if_pos g]; exact Ev.shift 0 fun k => by simp
  simp only [if_neg g]
  by_cases g : bt s a = 110
  · simp only [if_pos g]; exact Ev.shift 0 fun k => by simp
  simp only [if_neg g]
  by_cases g : bt s a = 92
  · simp only [if_pos g]; exact Ev.shift 0 fun k => by simp
  simp only [if_neg g]
  unfold formRest
  rw [hb, hc1, hz]
  by_cases g : bt s a = 67
  · simp only [if_pos g]
    unfold keymap_control.f
    by_cases g1 : a + 1 = s.size
    · rw [if_pos g1]
      exact ⟨0, wrap64 (0 + 1), Ev.shift 0 fun k => by rw [if_pos (nil_size.2 (by omega))]; rfl⟩
    have hd := hd0 (by omega)
    have hn2 : ¬ (s.extract (a + 1) s.size).toList = [] := fun h => g1 (by have := nil_size.1 h; omega)
    have hp2 : (0 : Int) < ((s.extract (a + 1) s.size).size : Int) := by omega
    rw [if_neg g1, if_neg hn2, hd, if_pos hp2]
    by_cases g2 : bt s (a + 1 : Nat) = 45
    · rw [if_neg (show ¬ ¬ bt s (a + 1 : Nat) = 45 from fun h => h g2), if_pos g2]
      by_cases g3 : a + 2 = s.size
      · rw [if_pos g3, if_pos (by omega)]
        exact ⟨0, wrap64 (0 + 1), Ev.shift 0 fun k => rfl⟩
      · have e1 : ¬ ((s.extract (a + 1) s.size).size : Int) = 1 := by omega
        have e2 : (1 : Int) < ((s.extract (a + 1) s.size).size : Int) := by omega
        rw [if_neg g3, if_neg e1, if_pos e2, hd1 (by omega)]
        have br := bt_range s (a + 2 : Nat)
        by_cases g4 : bt s (a + 2 : Nat) < 97
        · rw [if_pos g4, if_pos g4]; exact ⟨0, wrap64 (0 + 1), Ev.shift 0 fun k => rfl⟩
        · rw [if_neg g4, if_neg g4]
          by_cases g5 : bt s (a + 2 : Nat) > 122
          · rw [if_pos g5, if_pos g5]; exact ⟨0, wrap64 (0 + 1), Ev.shift 0 fun k => rfl⟩
          · rw [if_neg g5, if_neg g5]
            refine Ev.shift 0 fun k => ?_
            simp only [Option.bind_some, Option.some.injEq, Prod.mk.injEq, and_true]
            exact ⟨by omega, by rw [wrap_in] <;> omega⟩
    · rw [if_pos g2, if_neg g2]
      exact ⟨0, wrap64 (0 + 1), Ev.shift 0 fun k => rfl⟩
  simp only [if_neg g]
  by_cases g : bt s a = 120
  · simp only [if_pos g]
    unfold keymap_coded.f
    by_cases g1 : a + 1 = s.size
    · rw [if_pos g1]
      exact ⟨0, wrap64 (0 + 1), Ev.shift 1 fun k => by rw [keymap_coded.l0, if_pos (by omega), if_pos (by omega)]; rfl⟩
    have hd := hd0 (by omega)
    have br0 := bt_range s (a + 1 : Nat)
    have br1 := bt_range s (a + 2 : Nat)
    have dr0 := digI_range (bt s (a + 1 : Nat))
    have dr1 := digI_range (bt s (a + 2 : Nat))
    have w1 : wrap64 ((0 : Int) + 1) = 1 := wrap_in (by omega) (by omega)
    have w2 : wrap64 ((1 : Int) + 1) = 2 := wrap_in (by omega) (by omega)
    rw [if_neg g1]
    by_cases g2 : digI (bt s (a + 1 : Nat)) < 0
    · rw [if_pos g2]
      exact ⟨0, wrap64 (0 + 1), Ev.shift 2 fun k => by
        rw [keymap_coded.l0, if_pos (by omega), if_neg (by omega), if_pos (by omega), if_pos (by omega), hd, hex_ev _ br0.1 br0.2, if_pos g2]; rfl⟩
    rw [if_neg g2]
    by_cases g3 : a + 2 = s.size
    · rw [if_pos g3]
      exact ⟨0, wrap64 (0 + 1), Ev.shift 3 fun k => by
        rw [keymap_coded.l0, if_pos (by omega), if_neg (by omega), if_pos (by omega), if_pos (by omega), hd, hex_ev _ br0.1 br0.2, if_neg g2]
        simp only [Option.bind_some, if_true, w1]
        rw [keymap_coded.l0, if_pos (by omega), if_pos (by omega)]; simp [w11]⟩
    rw [if_neg g3]
    have he := hd1 (by omega)
    by_cases g4 : digI (bt s (a + 2 : Nat)) < 0
    · rw [if_pos g4]
      exact ⟨0, wrap64 (0 + 1), Ev.shift 3 fun k => by
        rw [keymap_coded.l0, if_pos (by omega), if_neg (by omega), if_pos (by omega), if_pos (by omega), hd, hex_ev _ br0.1 br0.2, if_neg g2]
        simp only [Option.bind_some, if_true, w1]
        rw [keymap_coded.l0, if_pos (by omega), if_neg (by omega), if_pos (by omega), if_pos (by omega), he, hex_ev _ br1.1 br1.2, if_pos g4]; simp [w11]⟩
    rw [if_neg g4]
    refine Ev.shift 4 fun k => ?_
    rw [keymap_coded.l0, if_pos (by omega), if_neg (by omega), if_pos (by omega), if_pos (by omega), hd, hex_ev _ br0.1 br0.2, if_neg g2]
    simp only [Option.bind_some, if_true, w1]
    rw [keymap_coded.l0, if_pos (by omega), if_neg (by omega), if_pos (by omega), if_pos (by omega), he, hex_ev _ br1.1 br1.2, if_neg g4]
    simp only [Option.bind_some, if_true, w2]
    rw [keymap_coded.l0, if_neg (by omega)]
    simp only [Option.bind_some, Option.some.injEq, Prod.mk.injEq, and_true]
    refine ⟨?_, by rw [wrap_in] <;> omega⟩
    rw [show wrap64 (16 * 0) = 0 from wrap_in (by omega) (by omega), wrap_in (x := 0 + _) (by omega) (by omega), wrap_in (x := 16 * _) (by omega) (by omega), wrap_in (by omega) (by omega)]
    omega
  simp only [if_neg g]
  by_cases g : bt s a = 77
  · simp only [if_pos g]
    by_cases g1 : a + 1 = s.size
    · rw [if_pos g1]
      exact ⟨0, 1, Ev.shift 0 fun k => by rw [if_pos (by omega)]⟩
    rw [if_neg g1, if_neg (by omega : ¬ ((s.size - a : Nat) : Int) = 1), hb1 (by omega)]
    by_cases g2 : bt s (a + 1 : Nat) = 45
    · rw [if_neg (show ¬ ¬ bt s (a + 1 : Nat) = 45 from fun h => h g2)]
      simp only [if_pos g2]
      by_cases g3 : a + 2 = s.size
      · rw [if_pos g3]
        have : (s.extract a s.size).toList = [77, 45] := by
          rw [ByteArray.toList_eq]
          apply List.ext_getElem
          · rw [data_length, hz]; simp; omega
          · intro i i1 i2
            simp at i2
            rcases (by omega : i = 0 ∨ i = 1) with rfl | rfl
            · have h2 := bt_at (s.extract a s.size) 0 (by rw [hz]; simp; omega)
              rw [hb, g] at h2
              exact UInt8.toNat_inj.mp (Int.ofNat_inj.mp h2)
            · have h2 := bt_at (s.extract a s.size) 1 (by rw [hz]; simp; omega)
              rw [hb1 (by omega), g2] at h2
              exact UInt8.toNat_inj.mp (Int.ofNat_inj.mp h2)
        exact ⟨0, 1, Ev.shift 0 fun k => by rw [if_pos this]⟩
      · rw [if_neg g3]
        have : ¬ (s.extract a s.size).toList = [77, 45] := fun h => g3 (by
          have h2 := data_length (s.extract a s.size)
          rw [← ByteArray.toList_eq, h, hz] at h2
          simp at h2
          omega)
        refine Ev.shift 0 fun k => ?_
        rw [if_neg this]
        congr 3
        omega
    · rw [if_pos g2]
      have : ¬ (s.extract a s.size).toList = [77, 45] := fun h => g2 (by
        rw [← hb1 (by omega)]
        have h2 := bt_at (s.extract a s.size) 1 (by rw [hz]; simp; omega)
        rw [← h2]
        have h3 : (s.extract a s.size).data.toList = [77, 45] := by rw [← ByteArray.toList_eq]; exact h
        have h4 : (s.extract a s.size).data = #[77, 45] := Array.ext' h3
        have h5 : (s.extract a s.size) = ⟨#[77, 45]⟩ := ByteArray.ext h4
        simp only [h5]
        rfl)
      exact ⟨0, 1, Ev.shift 0 fun k => by rw [if_neg this, if_neg g2]⟩
  · simp only [if_neg g]
    exact ⟨0, 1, Ev.shift 0 fun k => rfl⟩
end
end Go.Proofs.YtklcndfnboieoaaDoor.K
