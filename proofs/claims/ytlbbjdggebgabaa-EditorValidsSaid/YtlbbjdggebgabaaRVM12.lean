/- Texts of this claim, joined: G2, Px90, ArgsEditorValids, PureEditorValids. -/
import Derived.Test.YtlbbjdggebgabaaRVM4
import Derived.Test.YtlbbjdggebgabaaRVM7
import Derived.Test.YtlbbjdggebgabaaRVM9
import Derived.Test.YtlbbjdggebgabaaRVM10
import Derived.Test.YtlbbjdggebgabaaRVM11
import Derived.Test.YtlbbjdggebgabaaRVM8
import Derived.Deep.RegionHeld3
import Derived.Test.YtlbbjdggebgabaaRVM1
section
/- Plain facts: what Valid, the reference's Valid, few and lines tell. -/
namespace Go.Proofs.Ytlbbjdggebgabaa.P
open Go.RowKit Go.Proofs.YtlbbjdggebgabaaW.PrintWords Go.Proofs.YtlbbjdggebgabaaW.PrintLast Go.Proofs.YtlbbjdggebgabaaW.PrintMore
set_option linter.unusedVariables false
set_option linter.unusedSimpArgs false

def longB (l : List S23) : Bool := l.any fun s => decide ((s.f0.size : Int) > 4096)
def outB (l : List S23) : Bool := l.any fun s => decide (s.f1 < 0) || decide (s.f1 > (s.f0.size : Int))
def killL (l : List ByteArray) : Bool := l.any fun x => decide ((x.size : Int) > 4096)
theorem wrap_in {x : Int} (h0 : -9223372036854775808 ≤ x) (h1 : x ≤ 9223372036854775807) : wrap64 x = x := by unfold wrap64; omega
theorem drop_at {α : Type} (d : α) (l : List α) (i : Nat) (h : i < l.length) : l.drop i = l.getD i d :: l.drop (i + 1) := by
  rw [List.drop_eq_getElem_cons h]
  simp [List.getD, h]
theorem wrap_next (i : Nat) (h : i < 1000000000000000000) : wrap64 ((i : Int) + 1) = ((i + 1 : Nat) : Int) := by rw [wrap_in (by omega) (by omega)]; push_cast; rfl

theorem long_l0 (l : List S23) (hl : l.length ≤ 1000000000000000) : ∀ n i k, l.length = i + n → n < k → editor_long.l0 k l (l.length : Int) (i : Int) = some (longB (l.drop i))
  | 0, i, k + 1, h, _ => by
    rw [editor_long.l0, if_neg (by omega), List.drop_eq_nil_of_le (by omega)]
    rfl
  | n + 1, i, k + 1, h, hk => by
    have hd := drop_at z23 l i (by omega)
    rw [editor_long.l0, if_pos (by omega), if_pos (by omega), if_pos (by omega), wrap_next i (by omega), long_l0 l hl n (i + 1) k (by omega) (by omega), hd]
    have e : rd_T23 l (i : Int) = l.getD i z23 := rfl
    rw [e]
    unfold longB
    rw [List.any_cons]
    by_cases hc : ((l.getD i z23).f0.size : Int) > 4096
    · rw [if_pos hc, decide_eq_true hc]; rfl
    · rw [if_neg hc, decide_eq_false hc]; rfl
theorem long_f (l : List S23) (k : Nat) (hl : l.length ≤ 1000000000000000) (hk : l.length < k) : editor_long.f k l = some (longB l) := by
  have h := long_l0 l hl l.length 0 k (by omega) hk
  exact h
theorem outside_l0 (l : List S23) (hl : l.length ≤ 1000000000000000) : ∀ n i k, l.length = i + n → n < k → editor_outside.l0 k l (l.length : Int) (i : Int) = some (outB (l.drop i))
  | 0, i, k + 1, h, _ => by
    rw [editor_outside.l0, if_neg (by omega), List.drop_eq_nil_of_le (by omega)]
    rfl
  | n + 1, i, k + 1, h, hk => by
    have hd := drop_at z23 l i (by omega)
    rw [editor_outside.l0, if_pos (by omega), if_pos (by omega), if_pos (by omega), wrap_next i (by omega), outside_l0 l hl n (i + 1) k (by omega) (by omega), hd]
    have e : rd_T23 l (i : Int) = l.getD i z23 := rfl
    rw [e]
    unfold outB
    rw [List.any_cons]
    by_cases hc : (l.getD i z23).f1 < 0
    · rw [if_pos hc, decide_eq_true hc]; rfl
    · rw [if_neg hc, decide_eq_false hc]
      by_cases hc2 : (l.getD i z23).f1 > ((l.getD i z23).f0.size : Int)
      · rw [if_pos hc2, decide_eq_true hc2]; rfl
      · rw [if_neg hc2, decide_eq_false hc2]; rfl
theorem outside_f (l : List S23) (k : Nat) (hl : l.length ≤ 1000000000000000) (hk : l.length < k) : editor_outside.f k l = some (outB l) := outside_l0 l hl l.length 0 k (by omega) hk
theorem short_l0 (l : List ByteArray) (hl : l.length ≤ 1000000000000000) : ∀ n i k, l.length = i + n → n < k → jobshellref46_short.l0 k l (i : Int) = some (!killL (l.drop i))
  | 0, i, k + 1, h, _ => by
    rw [jobshellref46_short.l0, if_neg (by omega), List.drop_eq_nil_of_le (by omega)]
    rfl
  | n + 1, i, k + 1, h, hk => by
    have hd := drop_at ByteArray.empty l i (by omega)
    rw [jobshellref46_short.l0, if_pos (by omega), if_pos (by omega), wrap_next i (by omega), short_l0 l hl n (i + 1) k (by omega) (by omega), hd]
    have e : rdOf ByteArray.empty l (i : Int) = l.getD i ByteArray.empty := rfl
    rw [e]
    unfold killL
    rw [List.any_cons]
    by_cases hc : ((l.getD i ByteArray.empty).size : Int) > 4096
    · rw [if_pos hc, decide_eq_true hc]; rfl
    · rw [if_neg hc, decide_eq_false hc]; rfl
theorem short_f (l : List ByteArray) (k : Nat) (hl : l.length ≤ 1000000000000000) (hk : l.length < k) : jobshellref46_short.f k l = some (!killL l) := short_l0 l hl l.length 0 k (by omega) hk
theorem snaps3_l0 (l : List S23) (hl : l.length ≤ 1000000000000000) : ∀ n i k, l.length = i + n → n < k → jobshellref46_snaps.l0 k l 3 (i : Int) = some (!longB (l.drop i))
  | 0, i, k + 1, h, _ => by
    rw [jobshellref46_snaps.l0, if_neg (by omega), List.drop_eq_nil_of_le (by omega)]
    rfl
  | n + 1, i, k + 1, h, hk => by
    have hd := drop_at z23 l i (by omega)
    rw [jobshellref46_snaps.l0, if_pos (by omega), if_pos (by omega), wrap_next i (by omega), snaps3_l0 l hl n (i + 1) k (by omega) (by omega), hd]
    have e : rd_T23 l (i : Int) = l.getD i z23 := rfl
    rw [e]
    unfold longB jobshellref46_snap.f
    rw [List.any_cons, if_pos rfl, Option.bind_some]
    by_cases hc : ((l.getD i z23).f0.size : Int) > 4096
    · rw [decide_eq_true hc, decide_eq_false (by omega)]; rfl
    · rw [decide_eq_false hc, decide_eq_true (by omega)]; rfl
theorem snaps3_f (l : List S23) (k : Nat) (hl : l.length ≤ 1000000000000000) (hk : l.length < k) : jobshellref46_snaps.f k l 3 = some (!longB l) := snaps3_l0 l hl l.length 0 k (by omega) hk
theorem snap2_f (a : ByteArray) (b : Int) : jobshellref46_snap.f a b 2 = some (!outB [⟨a, b⟩]) := by
  unfold jobshellref46_snap.f outB
  rw [if_neg (by decide)]
  by_cases h0 : b ≥ 0
  · rw [if_pos h0]
    by_cases h1 : b ≤ (a.size : Int)
    · rw [decide_eq_true h1]; simp [show ¬ b < 0 by omega, show ¬ b > (a.size : Int) by omega]
    · rw [decide_eq_false h1]; simp [show ¬ b < 0 by omega, show b > (a.size : Int) by omega]
  · rw [if_neg h0]; simp [show b < 0 by omega]
theorem snaps2_l0 (l : List S23) (hl : l.length ≤ 1000000000000000) : ∀ n i k, l.length = i + n → n < k → jobshellref46_snaps.l0 k l 2 (i : Int) = some (!outB (l.drop i))
  | 0, i, k + 1, h, _ => by
    rw [jobshellref46_snaps.l0, if_neg (by omega), List.drop_eq_nil_of_le (by omega)]
    rfl
  | n + 1, i, k + 1, h, hk => by
    have hd := drop_at z23 l i (by omega)
    rw [jobshellref46_snaps.l0, if_pos (by omega), if_pos (by omega), wrap_next i (by omega), snaps2_l0 l hl n (i + 1) k (by omega) (by omega), hd]
    have e : rd_T23 l (i : Int) = l.getD i z23 := rfl
    rw [e, snap2_f, Option.bind_some]
    unfold outB
    simp only [List.any_cons, List.any_nil, Bool.or_false]
    cases (decide ((l.getD i z23).f1 < 0) || decide ((l.getD i z23).f1 > ((l.getD i z23).f0.size : Int))) <;> rfl
theorem snaps2_f (l : List S23) (k : Nat) (hl : l.length ≤ 1000000000000000) (hk : l.length < k) : jobshellref46_snaps.f k l 2 = some (!outB l) := snaps2_l0 l hl l.length 0 k (by omega) hk

def tooLong (s : St) : Bool := longB [⟨s.text, s.pos⟩] || longB s.undo || longB s.redo || decide ((s.saved.size : Int) > 4096) || decide ((s.keys.size : Int) > 16) || killL s.kills
def offRange (s : St) : Bool := outB [⟨s.text, s.pos⟩] || outB s.undo || outB s.redo || decide (s.mark < 0) || decide (s.mark > (s.text.size : Int)) || decide (s.last < 0) || decide (s.last > 28) || decide (s.line < 0) || decide (s.line > 128)
def tooMany (s : St) : Bool := decide ((s.kills.length : Int) > 16) || decide ((s.undo.length : Int) > 64) || decide ((s.redo.length : Int) > 64)
def validI (s : St) : Int := if tooLong s then 3 else if offRange s then 2 else if tooMany s then 4 else 0

theorem valid_j2 (k : Nat) (x : Bool) (s : St) : editor_Valid.j2 (k + 1) x s.text s.pos s.mark s.kills s.undo s.redo s.keys s.last s.line s.saved = some (if x then 2 else if tooMany s then 4 else 0) := by
  rw [editor_Valid.j2]
  cases x
  · simp only [Bool.false_eq_true, if_false]
    unfold tooMany
    by_cases h1 : (s.kills.length : Int) > 16
    · rw [if_pos h1, decide_eq_true h1]; rfl
    · by_cases h2 : (s.undo.length : Int) > 64
      · rw [if_neg h1, if_pos h2, decide_eq_false h1, decide_eq_true h2]; rfl
      · by_cases h3 : (s.redo.length : Int) > 64
        · rw [if_neg h1, if_neg h2, if_pos h3, decide_eq_false h1, decide_eq_false h2, decide_eq_true h3]; rfl
        · rw [if_neg h1, if_neg h2, if_neg h3, decide_eq_false h1, decide_eq_false h2, decide_eq_false h3]; rfl
  · rfl
theorem valid_kills (s : St) (hl : s.kills.length ≤ 1000000000000000) : ∀ n i k, s.kills.length = i + n →
    editor_Valid.l0 (k + n + 1) [⟨s.text, s.pos⟩] s.kills (s.kills.length : Int) (i : Int) s.text s.pos s.mark s.kills s.undo s.redo s.keys s.last s.line s.saved = if killL (s.kills.drop i) then some 3 else editor_Valid.l0 (k + 1) [⟨s.text, s.pos⟩] s.kills (s.kills.length : Int) (s.kills.length : Int) s.text s.pos s.mark s.kills s.undo s.redo s.keys s.last s.line s.saved
  | 0, i, k, h => by
    rw [List.drop_eq_nil_of_le (by omega), show i = s.kills.length by omega]
    rfl
  | n + 1, i, k, h => by
    have hd := drop_at ByteArray.empty s.kills i (by omega)
    rw [show k + (n + 1) + 1 = (k + n + 1) + 1 by omega, editor_Valid.l0, if_pos (by omega), if_pos (by omega), if_pos (by omega), wrap_next i (by omega), valid_kills s hl n (i + 1) k (by omega), hd]
    have e : rdOf ByteArray.empty s.kills (i : Int) = s.kills.getD i ByteArray.empty := rfl
    rw [e]
    unfold killL
    rw [List.any_cons]
    by_cases hc : ((s.kills.getD i ByteArray.empty).size : Int) > 4096
    · rw [if_pos hc, decide_eq_true hc]; rfl
    · rw [if_neg hc, decide_eq_false hc]; rfl
theorem valid_tail (s : St) (k : Nat) (hu : s.undo.length ≤ 1000000000000000) (hr : s.redo.length ≤ 1000000000000000) (h1 : s.undo.length < k) (h2 : s.redo.length < k) (h3 : 1 < k) :
    editor_Valid.l0 (k + 1) [⟨s.text, s.pos⟩] s.kills (s.kills.length : Int) (s.kills.length : Int) s.text s.pos s.mark s.kills s.undo s.redo s.keys s.last s.line s.saved = some (if offRange s then 2 else if tooMany s then 4 else 0) := by
  obtain ⟨k, rfl⟩ : ∃ m, k = m + 1 := ⟨k - 1, by omega⟩
  rw [editor_Valid.l0, if_neg (by omega), outside_f _ (k + 1) (by simp) (by simp; omega), outside_f s.undo (k + 1) hu h1, outside_f s.redo (k + 1) hr h2]
  simp only [Option.bind_some, valid_j2]
  unfold offRange
  cases outB [⟨s.text, s.pos⟩]
  · cases outB s.undo
    · cases outB s.redo
      · by_cases g1 : s.mark < 0
        · simp [g1]
        · by_cases g2 : s.mark > (s.text.size : Int)
          · simp [g1, g2]
          · by_cases g3 : s.last < 0
            · simp [g1, g2, g3]
            · by_cases g4 : s.last > 28
              · simp [g1, g2, g3, g4]
              · by_cases g5 : s.line < 0
                · simp [g1, g2, g3, g4, g5]
                · simp [g1, g2, g3, g4, g5]
      · simp
    · simp
  · simp
theorem valid_f (s : St) (k : Nat) (h0 : s.kills.length ≤ 1000000000000000) (hu : s.undo.length ≤ 1000000000000000) (hr : s.redo.length ≤ 1000000000000000) (hk : s.kills.length + s.undo.length + s.redo.length + 4 ≤ k) :
    editor_Valid.f k s.text s.pos s.mark s.kills s.undo s.redo s.keys s.last s.line s.saved = some (validI s) := by
  obtain ⟨m, rfl⟩ : ∃ m, k = (m + s.kills.length + 1) + 1 := ⟨k - s.kills.length - 2, by omega⟩
  have hj : ∀ b : Bool, editor_Valid.j0 ((m + s.kills.length + 1) + 1) [⟨s.text, s.pos⟩] b s.text s.pos s.mark s.kills s.undo s.redo s.keys s.last s.line s.saved = if b then some 3 else if killL s.kills then some 3 else some (if offRange s then 2 else if tooMany s then 4 else 0) := by
    intro b
    rw [editor_Valid.j0]
    cases b
    · rw [if_neg (by decide), if_neg (by decide)]
      have h := valid_kills s h0 s.kills.length 0 m (by omega)
      rw [List.drop_zero, valid_tail s m hu hr (by omega) (by omega) (by omega)] at h
      exact h
    · rfl
  unfold editor_Valid.f
  simp only [Option.bind_some]
  rw [long_f _ _ (by simp) (by simp), long_f s.undo _ hu (by omega), long_f s.redo _ hr (by omega)]
  simp only [Option.bind_some, hj]
  unfold validI tooLong
  cases longB [⟨s.text, s.pos⟩]
  · cases longB s.undo
    · cases longB s.redo
      · by_cases g1 : (s.saved.size : Int) > 4096
        · simp [g1]
        · by_cases g2 : (s.keys.size : Int) > 16
          · simp [g1, g2]
          · cases killL s.kills
            · simp [g1, g2]
            · simp [g1, g2]
      · simp
    · simp
  · simp

theorem rvalid_j1 (k : Nat) (x : Bool) (s : St) : jobshellref46_Valid.j1 (k + 1) x s.text s.pos s.mark s.kills s.undo s.redo s.keys s.last s.line s.saved = some (if x then 2 else if tooMany s then 4 else 0) := by
  rw [jobshellref46_Valid.j1]
  cases x
  · simp only [Bool.false_eq_true, if_false]
    unfold tooMany
    by_cases h1 : (s.kills.length : Int) > 16
    · rw [if_pos h1, decide_eq_true h1]; rfl
    · by_cases h2 : (s.undo.length : Int) > 64
      · rw [if_neg h1, if_pos h2, decide_eq_false h1, decide_eq_true h2]; rfl
      · by_cases h3 : (s.redo.length : Int) > 64
        · rw [if_neg h1, if_neg h2, if_pos h3, decide_eq_false h1, decide_eq_false h2, decide_eq_true h3]; rfl
        · rw [if_neg h1, if_neg h2, if_neg h3, decide_eq_false h1, decide_eq_false h2, decide_eq_false h3]; rfl
  · rfl
theorem rvalid_j0 (s : St) (k : Nat) (b : Bool) (hu : s.undo.length ≤ 1000000000000000) (hr : s.redo.length ≤ 1000000000000000) (h1 : s.undo.length < k) (h2 : s.redo.length < k) (h3 : 1 < k) :
    jobshellref46_Valid.j0 (k + 1) b s.text s.pos s.mark s.kills s.undo s.redo s.keys s.last s.line s.saved = some (if b then 3 else if offRange s then 2 else if tooMany s then 4 else 0) := by
  obtain ⟨k, rfl⟩ : ∃ m, k = m + 1 := ⟨k - 1, by omega⟩
  rw [jobshellref46_Valid.j0]
  cases b
  · rw [snap2_f, snaps2_f s.undo (k + 1) hu h1, snaps2_f s.redo (k + 1) hr h2]
    simp only [Bool.false_eq_true, if_false, Option.bind_some, rvalid_j1]
    unfold offRange
    cases outB [⟨s.text, s.pos⟩]
    · cases outB s.undo
      · cases outB s.redo
        · by_cases g1 : s.mark < 0
          · simp [g1]
          · by_cases g2 : s.mark > (s.text.size : Int)
            · simp [g1, g2]
            · by_cases g3 : s.last < 0
              · simp [g1, g2, g3]
              · by_cases g4 : s.last > 28
                · simp [g1, g2, g3, g4]
                · by_cases g5 : s.line < 0
                  · simp [g1, g2, g3, g4, g5]
                  · simp [g1, g2, g3, g4, g5]
        · simp
      · simp
    · simp
  · rfl
theorem rvalid_f (s : St) (k : Nat) (h0 : s.kills.length ≤ 1000000000000000) (hu : s.undo.length ≤ 1000000000000000) (hr : s.redo.length ≤ 1000000000000000) (hk : s.kills.length + s.undo.length + s.redo.length + 4 ≤ k) :
    jobshellref46_Valid.f k s.text s.pos s.mark s.kills s.undo s.redo s.keys s.last s.line s.saved = some (validI s) := by
  obtain ⟨m, rfl⟩ : ∃ m, k = m + 1 := ⟨k - 1, by omega⟩
  have hj : ∀ b, jobshellref46_Valid.j0 (m + 1) b s.text s.pos s.mark s.kills s.undo s.redo s.keys s.last s.line s.saved = some (if b then 3 else if offRange s then 2 else if tooMany s then 4 else 0) := fun b => rvalid_j0 s m b hu hr (by omega) (by omega) (by omega)
  have hs3 : jobshellref46_snap.f s.text s.pos 3 = some (!longB [⟨s.text, s.pos⟩]) := by
    unfold jobshellref46_snap.f longB
    rw [if_pos rfl]
    by_cases hc : (s.text.size : Int) > 4096
    · rw [decide_eq_false (by omega)]; simp only [List.any_cons, List.any_nil, Bool.or_false]; rw [decide_eq_true hc]; rfl
    · rw [decide_eq_true (by omega)]; simp only [List.any_cons, List.any_nil, Bool.or_false]; rw [decide_eq_false hc]; rfl
  unfold jobshellref46_Valid.f
  rw [hs3, short_f s.kills _ h0 (by omega), snaps3_f s.undo _ hu (by omega), snaps3_f s.redo _ hr (by omega)]
  simp only [Option.bind_some, hj]
  unfold validI tooLong
  cases longB [⟨s.text, s.pos⟩]
  · cases killL s.kills
    · cases longB s.undo
      · cases longB s.redo
        · by_cases g1 : (s.saved.size : Int) > 4096
          · simp [g1]
          · by_cases g2 : (s.keys.size : Int) > 16
            · simp [g1, g2]
            · simp [g1, g2]
        · by_cases g1 : (s.saved.size : Int) > 4096
          · simp [g1]
          · simp [g1]
      · by_cases g1 : (s.saved.size : Int) > 4096
        · simp [g1]
        · simp [g1]
    · by_cases g1 : (s.saved.size : Int) > 4096
      · simp [g1]
      · simp [g1]
  · simp

def sumK (l : List ByteArray) : Int := (l.map fun x => (x.size : Int)).sum
def sumN (l : List S23) : Int := (l.map fun s => (s.f0.size : Int)).sum
theorem sumK_nn : ∀ l, 0 ≤ sumK l
  | [] => by decide
  | x :: l => by have := sumK_nn l; unfold sumK at *; rw [List.map_cons, List.sum_cons]; omega
theorem sumN_nn : ∀ l, 0 ≤ sumN l
  | [] => by decide
  | x :: l => by have := sumN_nn l; unfold sumN at *; rw [List.map_cons, List.sum_cons]; omega
theorem sumK_cons (x : ByteArray) (l : List ByteArray) : sumK (x :: l) = (x.size : Int) + sumK l := by unfold sumK; rw [List.map_cons, List.sum_cons]
theorem sumN_cons (x : S23) (l : List S23) : sumN (x :: l) = (x.f0.size : Int) + sumN l := by unfold sumN; rw [List.map_cons, List.sum_cons]
theorem sumK_le (B : Int) : ∀ l : List ByteArray, (∀ x ∈ l, (x.size : Int) ≤ B) → sumK l ≤ B * (l.length : Int)
  | [], _ => by simp [sumK]
  | y :: l, h => by
    have h1 := sumK_le B l (fun x hx => h x (List.mem_cons_of_mem _ hx))
    have h2 := h y List.mem_cons_self
    rw [sumK_cons, List.length_cons]
    push_cast
    rw [Int.mul_add, Int.mul_one]
    omega
theorem sumN_le (B : Int) : ∀ l : List S23, (∀ x ∈ l, (x.f0.size : Int) ≤ B) → sumN l ≤ B * (l.length : Int)
  | [], _ => by simp [sumN]
  | y :: l, h => by
    have h1 := sumN_le B l (fun x hx => h x (List.mem_cons_of_mem _ hx))
    have h2 := h y List.mem_cons_self
    rw [sumN_cons, List.length_cons]
    push_cast
    rw [Int.mul_add, Int.mul_one]
    omega
theorem few_l2 (s : St) (hl : s.redo.length ≤ 1000) : ∀ n i k (a : Int), s.redo.length = i + n → n < k → 0 ≤ a → a + sumN (s.redo.drop i) ≤ 1000000000000000000 →
    jobshelllaw46_few.l2 k a (i : Int) s.text s.pos s.mark s.kills s.undo s.redo s.keys s.last s.line s.saved = some (decide (a + sumN (s.redo.drop i) ≤ 30000))
  | 0, i, k + 1, a, h, _, _, _ => by
    rw [jobshelllaw46_few.l2, if_neg (by omega), List.drop_eq_nil_of_le (by omega)]
    have : a + sumN [] = a := by unfold sumN; simp
    rw [this]
  | n + 1, i, k + 1, a, h, hk, h0, h1 => by
    have hd := drop_at z23 s.redo i (by omega)
    rw [hd, sumN_cons] at h1 ⊢
    have hn := sumN_nn (s.redo.drop (i + 1))
    have e : rd_T23 s.redo (i : Int) = s.redo.getD i z23 := rfl
    rw [jobshelllaw46_few.l2, if_pos (by omega), if_pos (by omega), wrap_next i (by omega), e, wrap_in (by omega) (by omega), few_l2 s hl n (i + 1) k _ (by omega) (by omega) (by omega) (by omega), Int.add_assoc]
theorem few_l1 (s : St) (hl : s.undo.length ≤ 1000) (hl2 : s.redo.length ≤ 1000) : ∀ n i k (a : Int), s.undo.length = i + n → n + s.redo.length + 1 < k → 0 ≤ a → a + sumN (s.undo.drop i) + sumN s.redo ≤ 1000000000000000000 →
    jobshelllaw46_few.l1 k a (i : Int) s.text s.pos s.mark s.kills s.undo s.redo s.keys s.last s.line s.saved = some (decide (a + sumN (s.undo.drop i) + sumN s.redo ≤ 30000))
  | 0, i, k + 1, a, h, hk, h0, h1 => by
    rw [List.drop_eq_nil_of_le (by omega)] at h1 ⊢
    have e : a + sumN [] = a := by unfold sumN; simp
    rw [e] at h1 ⊢
    have h2 := few_l2 s hl2 s.redo.length 0 k a (by omega) (by omega) h0 (by rw [List.drop_zero]; exact h1)
    rw [List.drop_zero] at h2
    rw [jobshelllaw46_few.l1, if_neg (by omega)]
    exact h2
  | n + 1, i, k + 1, a, h, hk, h0, h1 => by
    have hd := drop_at z23 s.undo i (by omega)
    rw [hd, sumN_cons] at h1 ⊢
    have hn := sumN_nn (s.undo.drop (i + 1))
    have hn2 := sumN_nn s.redo
    have e : rd_T23 s.undo (i : Int) = s.undo.getD i z23 := rfl
    rw [jobshelllaw46_few.l1, if_pos (by omega), if_pos (by omega), wrap_next i (by omega), e, wrap_in (by omega) (by omega), few_l1 s hl hl2 n (i + 1) k _ (by omega) (by omega) (by omega) (by omega), Int.add_assoc a]
theorem few_l0 (s : St) (hl0 : s.kills.length ≤ 1000) (hl : s.undo.length ≤ 1000) (hl2 : s.redo.length ≤ 1000) : ∀ n i k (a : Int), s.kills.length = i + n → n + s.undo.length + s.redo.length + 2 < k → 0 ≤ a → a + sumK (s.kills.drop i) + sumN s.undo + sumN s.redo ≤ 1000000000000000000 →
    jobshelllaw46_few.l0 k a (i : Int) s.text s.pos s.mark s.kills s.undo s.redo s.keys s.last s.line s.saved = some (decide (a + sumK (s.kills.drop i) + sumN s.undo + sumN s.redo ≤ 30000))
  | 0, i, k + 1, a, h, hk, h0, h1 => by
    rw [List.drop_eq_nil_of_le (by omega)] at h1 ⊢
    have e : a + sumK [] = a := by unfold sumK; simp
    rw [e] at h1 ⊢
    have h2 := few_l1 s hl hl2 s.undo.length 0 k a (by omega) (by omega) h0 (by rw [List.drop_zero]; exact h1)
    rw [List.drop_zero] at h2
    rw [jobshelllaw46_few.l0, if_neg (by omega)]
    exact h2
  | n + 1, i, k + 1, a, h, hk, h0, h1 => by
    have hd := drop_at ByteArray.empty s.kills i (by omega)
    rw [hd, sumK_cons] at h1 ⊢
    have hn := sumK_nn (s.kills.drop (i + 1))
    have hn1 := sumN_nn s.undo
    have hn2 := sumN_nn s.redo
    have e : rdOf ByteArray.empty s.kills (i : Int) = s.kills.getD i ByteArray.empty := rfl
    rw [jobshelllaw46_few.l0, if_pos (by omega), if_pos (by omega), wrap_next i (by omega), e, wrap_in (by omega) (by omega), few_l0 s hl0 hl hl2 n (i + 1) k _ (by omega) (by omega) (by omega) (by omega), Int.add_assoc a]
/-- What the statement's sizes say of an editor. -/
structure FewS (s : St) : Prop where
  kills : s.kills.length ≤ 70
  undo : s.undo.length ≤ 70
  redo : s.redo.length ≤ 70
  total : (s.text.size : Int) + (s.saved.size : Int) + (s.keys.size : Int) + sumK s.kills + sumN s.undo + sumN s.redo ≤ 30000
/-- An editor that a machine can hold. -/
structure Held (s : St) : Prop where
  text : s.text.size ≤ 140737488351232
  keys : s.keys.size ≤ 140737488351232
  saved : s.saved.size ≤ 140737488351232
  kills : s.kills.length ≤ 140737488351232
  undo : s.undo.length ≤ 140737488351232
  redo : s.redo.length ≤ 140737488351232
  lines : s.lines.length ≤ 140737488351232
  eachK : ∀ x ∈ s.kills, x.size ≤ 140737488351232
  eachU : ∀ x ∈ s.undo, x.f0.size ≤ 140737488351232
  eachR : ∀ x ∈ s.redo, x.f0.size ≤ 140737488351232
theorem few_f (s : St) (hs : Held s) : ∃ r, jobshelllaw46_few.f 1000 s.text s.pos s.mark s.kills s.undo s.redo s.keys s.last s.line s.saved = some r ∧ (r = true ↔ FewS s) := by
  have hj1 : jobshelllaw46_few.j0 1000 true s.text s.pos s.mark s.kills s.undo s.redo s.keys s.last s.line s.saved = some false := by rw [jobshelllaw46_few.j0, if_pos rfl]
  unfold jobshelllaw46_few.f
  by_cases h1 : (s.kills.length : Int) > 70
  · rw [if_pos h1, hj1]
    exact ⟨false, rfl, fun h => by simp at h, fun h => by have := h.kills; omega⟩
  · rw [if_neg h1]
    by_cases h2 : (s.undo.length : Int) > 70
    · rw [if_pos h2, hj1]
      exact ⟨false, rfl, fun h => by simp at h, fun h => by have := h.undo; omega⟩
    · rw [if_neg h2]
      by_cases h3 : (s.redo.length : Int) > 70
      · rw [decide_eq_true h3, hj1]
        exact ⟨false, rfl, fun h => by simp at h, fun h => by have := h.redo; omega⟩
      · rw [decide_eq_false h3]
        have k1 := sumK_le 140737488351232 s.kills (fun x hx => by have := hs.eachK x hx; omega)
        have k2 := sumN_le 140737488351232 s.undo (fun x hx => by have := hs.eachU x hx; omega)
        have k3 := sumN_le 140737488351232 s.redo (fun x hx => by have := hs.eachR x hx; omega)
        have t1 := hs.text
        have t2 := hs.keys
        have t3 := hs.saved
        have hl := few_l0 s (by omega) (by omega) (by omega) s.kills.length 0 999 ((s.text.size : Int) + (s.saved.size : Int) + (s.keys.size : Int)) (by omega) (by omega) (by omega) (by rw [List.drop_zero]; omega)
        rw [List.drop_zero] at hl
        refine ⟨decide ((s.text.size : Int) + (s.saved.size : Int) + (s.keys.size : Int) + sumK s.kills + sumN s.undo + sumN s.redo ≤ 30000), ?_, ?_⟩
        · rw [jobshelllaw46_few.j0, if_neg (by decide), wrap_in (x := (s.text.size : Int) + (s.saved.size : Int)) (by omega) (by omega), wrap_in (by omega) (by omega)]
          exact hl
        · rw [decide_eq_true_eq]
          exact ⟨fun h => ⟨by omega, by omega, by omega, h⟩, fun h => h.total⟩
/-- An editor that the statements speak of. -/
structure Good (s : St) : Prop where
  text : s.text.size ≤ 4096
  undoL : longB s.undo = false
  redoL : longB s.redo = false
  saved : s.saved.size ≤ 4096
  keys : s.keys.size ≤ 16
  killsL : killL s.kills = false
  low : 0 ≤ s.pos
  high : s.pos ≤ s.text.size
  undoO : outB s.undo = false
  redoO : outB s.redo = false
  mark0 : 0 ≤ s.mark
  mark1 : s.mark ≤ s.text.size
  last0 : 0 ≤ s.last
  last1 : s.last ≤ 28
  line0 : 0 ≤ s.line
  line1 : s.line ≤ 128
  kills : s.kills.length ≤ 16
  undo : s.undo.length ≤ 64
  redo : s.redo.length ≤ 64
theorem killL_mem {l : List ByteArray} (h : killL l = false) : ∀ x ∈ l, x.size ≤ 4096 := by
  intro x hx
  have := List.any_eq_false.mp h x hx
  simp only [decide_eq_true_eq] at this
  omega
theorem Good.ok {s : St} (h : Good s) (hl : s.lines.length ≤ 200) : OkS s := by
  have g1 := h.text
  have g2 := h.line1
  have g12 := h.kills
  have g13 := h.undo
  have g14 := h.redo
  exact ⟨by omega, by omega, by omega, fun k hk => by have := killL_mem h.killsL k hk; omega, h.low, h.high, by omega, by omega, h.line0, by omega⟩
end Go.Proofs.Ytlbbjdggebgabaa.P
end

section
/- The law EditorValids: its walk. -/
namespace Go.Proofs.Ytlbbjdggebgabaa.P
open Go.RowKit Go.Proofs.YtlbbjdggebgabaaW.PrintWords Go.Proofs.YtlbbjdggebgabaaW.PrintLast Go.Proofs.YtlbbjdggebgabaaW.PrintMore
set_option linter.unusedVariables false
set_option linter.unusedSimpArgs false

open Classical in
/-- The law's answer at what a machine can hold. -/
noncomputable def jobshelllaw46_EditorValids.f (k : Nat) (a0_0 : ByteArray) (a0_1 : Int) (a0_2 : Int) (l0_3 : List ByteArray) (l0_4 : List (S23)) (l0_5 : List (S23)) (a0_6 : ByteArray) (a0_7 : Int) (a0_8 : Int) (a0_9 : ByteArray) : Option (Bool) := if Held ⟨a0_0, a0_1, a0_2, l0_3, l0_4, l0_5, a0_6, a0_7, a0_8, a0_9, 0, []⟩ then some true else none
theorem same_new : jobshellref46_Same.f 9 ⟨#[]⟩ 0 0 [] [] [] ⟨#[]⟩ 0 0 ⟨#[]⟩ ⟨#[]⟩ 0 0 [] [] [] ⟨#[]⟩ 0 0 ⟨#[]⟩ = some true := by kernel_rfl
theorem C_nilS (w : World) : Kd.C Kd.string w none 0 [] := C_of_R (Kd.R_nil Kd.string 9 w 0 (fun _ => True))
theorem C_nil23 (w : World) : Kd.C k23 w none 0 [] := C_of_R (Kd.R_nil k23 23 w 0 (fun _ => True))
/-- A box that holds an editor as it came. -/
def CBox (W : World) (g : Nat) (s : St) (vk vu vr : Value) : Prop := W.heap[g]? = some (.cells #[.string s.text, .int .i64 s.pos, .int .i64 s.mark, vk, vu, vr, .string s.keys, .int .i64 s.last, .int .i64 s.line, .string s.saved] 27 (0, 0))

theorem vS {w2 W : World} {g : Nat} {s : St} {vk vu vr : Value} (h : CBox w2 g s vk vu vr) (hb : Below w2.heap.size w2 W) : Aside0 (Below w2.heap.size w2 W) ∧ W.cell? ⟨g, 0, none⟩ = some (.string s.text) ∧ W.cell? ⟨g, 1, none⟩ = some (.int .i64 s.pos) ∧ W.cell? ⟨g, 2, none⟩ = some (.int .i64 s.mark) ∧ W.cell? ⟨g, 3, none⟩ = some (vk) ∧ W.cell? ⟨g, 4, none⟩ = some (vu) ∧ W.cell? ⟨g, 5, none⟩ = some (vr) ∧ W.cell? ⟨g, 6, none⟩ = some (.string s.keys) ∧ W.cell? ⟨g, 7, none⟩ = some (.int .i64 s.last) ∧ W.cell? ⟨g, 8, none⟩ = some (.int .i64 s.line) ∧ W.cell? ⟨g, 9, none⟩ = some (.string s.saved) := by
  have h' : CBox W g s vk vu vr := blk_below h hb
  exact ⟨⟨hb⟩, (blk_cell h' 0).trans rfl, (blk_cell h' 1).trans rfl, (blk_cell h' 2).trans rfl, (blk_cell h' 3).trans rfl, (blk_cell h' 4).trans rfl, (blk_cell h' 5).trans rfl, (blk_cell h' 6).trans rfl, (blk_cell h' 7).trans rfl, (blk_cell h' 8).trans rfl, (blk_cell h' 9).trans rfl⟩

set_option maxHeartbeats 16000000 in
set_option maxRecDepth 100000 in
theorem valids_walk (w : World) (s : St) (Ak Au Ar : Option Addr) (ck cu cr : Nat) (hs : Held s) (h1 : Kd.C Kd.string w Ak s.kills.length s.kills) (h1c : s.kills.length ≤ ck) (h2 : Kd.C k23 w Au s.undo.length s.undo) (h2c : s.undo.length ≤ cu) (h3 : Kd.C k23 w Ar s.redo.length s.redo) (h3c : s.redo.length ≤ cr) :
    Calls Try.prog 3 #[.agg #[.string s.text, .int .i64 s.pos, .int .i64 s.mark, .slice Ak s.kills.length ck, .slice Au s.undo.length cu, .slice Ar s.redo.length cr, .string s.keys, .int .i64 s.last, .int .i64 s.line, .string s.saved]] w fun e w' => e = .returned (.bool true) ∧ Below w.heap.size w w' := by
  have hu27 := Try.underlying27
  have hu38 := Try.underlying38
  have hu23 := Try.underlying23
  obtain ⟨rf, hf, hfi⟩ := few_f s hs
  obtain ⟨w1, hw1⟩ : ∃ z, z = w.alloc (.cells #[.string s.text, .int .i64 s.pos, .int .i64 s.mark, .slice Ak s.kills.length ck, .slice Au s.undo.length cu, .slice Ar s.redo.length cr, .string s.keys, .int .i64 s.last, .int .i64 s.line, .string s.saved] 27) := ⟨_, rfl⟩
  have hb1 : Below w.heap.size w w1 := by rw [hw1]; exact below_alloc (Below.refl _ _) _
  have HC := Aside0.mk (show CBox w1 w.heap.size s (.slice Ak s.kills.length ck) (.slice Au s.undo.length cu) (.slice Ar s.redo.length cr) from by rw [hw1]; exact blk_new w _)
  have K1 := Aside0.mk (Kd.C_below h1 hb1)
  have K2 := Aside0.mk (Kd.C_below h2 hb1)
  have K3 := Aside0.mk (Kd.C_below h3 hb1)
  have HB1 := Aside0.mk hb1
  have HW1 := Aside0.mk hw1
  have HF := Aside0.mk hf
  have HFI := Aside0.mk hfi
  have HS := Aside0.mk hs
  clear hw1 hb1 h1 h2 h3 hf hfi hs
  cases rf
  · go_enter Try.func3, Try.ntmps3
    go_wp2_with (fail)
    rw [← HW1.out]
    refine (jobshelllaw46_few.calls 1000 s.text s.pos s.mark Ak ck s.kills Au cu s.undo Ar cr s.redo s.keys s.last s.line s.saved false w1 K1.out h1c K2.out h2c K3.out h3c HF.out).mono ?_
    rintro e w2 ⟨rfl, hb2⟩
    have HB2 := Aside0.mk (below_step HB1.out hb2)
    clear hb2
    go_wp2_with (fail)
    refine (awake_calls w2).mono ?_
    rintro e w3 ⟨rfl, hb3⟩
    have HB3 := Aside0.mk (below_step HB2.out hb3)
    clear hb3
    go_wp2_with (fail)
    go_ret
    exact ⟨rfl, HB3.out⟩
  · have hfw : FewS s := HFI.out.mp rfl
    have hv1 := valid_f s 1000 (by have := hfw.kills; omega) (by have := hfw.undo; omega) (by have := hfw.redo; omega) (by have h1 := hfw.kills; have h2 := hfw.undo; have h3 := hfw.redo; omega)
    have hv2 := rvalid_f s 1000 (by have := hfw.kills; omega) (by have := hfw.undo; omega) (by have := hfw.redo; omega) (by have h1 := hfw.kills; have h2 := hfw.undo; have h3 := hfw.redo; omega)
    obtain ⟨vi, hvi⟩ : ∃ z, z = validI s := ⟨_, rfl⟩
    rw [← hvi] at hv1 hv2
    have HV1 := Aside0.mk hv1
    have HV2 := Aside0.mk hv2
    clear hvi hv1 hv2
    clear hfw
    go_enter Try.func3, Try.ntmps3
    go_wp2_with (fail)
    rw [← HW1.out]
    refine (jobshelllaw46_few.calls 1000 s.text s.pos s.mark Ak ck s.kills Au cu s.undo Ar cr s.redo s.keys s.last s.line s.saved true w1 K1.out h1c K2.out h2c K3.out h3c HF.out).mono ?_
    rintro e w2 ⟨rfl, hb2⟩
    have HC2 := Aside0.mk (show CBox w2 w.heap.size s (.slice Ak s.kills.length ck) (.slice Au s.undo.length cu) (.slice Ar s.redo.length cr) from blk_below HC.out hb2)
    have HB2 := Aside0.mk (below_step HB1.out hb2)
    have J1 := Aside0.mk (Kd.C_below K1.out hb2)
    have J2 := Aside0.mk (Kd.C_below K2.out hb2)
    have J3 := Aside0.mk (Kd.C_below K3.out hb2)
    clear hb2
    go_upto_region 3 with (fail)
    go_region_held3 (fun W => Aside0 (Below w2.heap.size w2 W) ∧ W.cell? ⟨w.heap.size, 0, none⟩ = some (.string s.text) ∧ W.cell? ⟨w.heap.size, 1, none⟩ = some (.int .i64 s.pos) ∧ W.cell? ⟨w.heap.size, 2, none⟩ = some (.int .i64 s.mark) ∧ W.cell? ⟨w.heap.size, 3, none⟩ = some (.slice Ak s.kills.length ck) ∧ W.cell? ⟨w.heap.size, 4, none⟩ = some (.slice Au s.undo.length cu) ∧ W.cell? ⟨w.heap.size, 5, none⟩ = some (.slice Ar s.redo.length cr) ∧ W.cell? ⟨w.heap.size, 6, none⟩ = some (.string s.keys) ∧ W.cell? ⟨w.heap.size, 7, none⟩ = some (.int .i64 s.last) ∧ W.cell? ⟨w.heap.size, 8, none⟩ = some (.int .i64 s.line) ∧ W.cell? ⟨w.heap.size, 9, none⟩ = some (.string s.saved))
      (first | exact vS HC2.out HBe.out | exact vS HC2.out HBd.out | exact vS HC2.out HBc.out | exact vS HC2.out HBb.out | exact vS HC2.out HBa.out | exact vS HC2.out (below_drew (Below.refl _ _)))
      (first | (go_at_call 11; refine (editor_Valid.calls 1000 s.text s.pos s.mark Ak ck s.kills Au cu s.undo Ar cr s.redo s.keys s.last s.line s.saved vi w2.drew (Kd.C_below J1.out (below_drew (Below.refl _ _))) h1c (Kd.C_below J2.out (below_drew (Below.refl _ _))) h2c (Kd.C_below J3.out (below_drew (Below.refl _ _))) h3c HV1.out).mono ?_; rintro e w3 ⟨rfl, hb3⟩; have HBa := Aside0.mk (below_step (below_drew (Below.refl _ _)) hb3); clear hb3) | (go_at_call 12; refine (jobshellref46_Valid.calls 1000 s.text s.pos s.mark Ak ck s.kills Au cu s.undo Ar cr s.redo s.keys s.last s.line s.saved vi w3 (Kd.C_below J1.out HBa.out) h1c (Kd.C_below J2.out HBa.out) h2c (Kd.C_below J3.out HBa.out) h3c HV2.out).mono ?_; rintro e w4 ⟨rfl, hb4⟩; have HBb := Aside0.mk (below_step HBa.out hb4); clear hb4) | (go_at_call 14; refine (editor_New.calls _ _ _ _ _ _ _ _ _ _ w4 rfl).mono ?_; rintro e w5 ⟨v3, v4, v5, rfl, q3, q4, q5, hb5⟩; have HBc := Aside0.mk (below_step HBb.out hb5); obtain ⟨A3, c3, rfl⟩ := Kd.R_slice q3; obtain ⟨A4, c4, rfl⟩ := Kd.R_slice q4; obtain ⟨A5, c5, rfl⟩ := Kd.R_slice q5; have Q3 := Aside0.mk q3; have Q4 := Aside0.mk q4; have Q5 := Aside0.mk q5; clear q3 q4 q5 hb5) | (go_at_call 13; refine (jobshellref46_Same.calls 9 ⟨#[]⟩ 0 0 A3 c3 [] A4 c4 [] A5 c5 [] ⟨#[]⟩ 0 0 ⟨#[]⟩ ⟨#[]⟩ 0 0 none 0 [] none 0 [] none 0 [] ⟨#[]⟩ 0 0 ⟨#[]⟩ true w5 (C_of_R Q3.out) (Nat.zero_le _) (C_of_R Q4.out) (Nat.zero_le _) (C_of_R Q5.out) (Nat.zero_le _) (C_nilS _) (Nat.le_refl _) (C_nil23 _) (Nat.le_refl _) (C_nil23 _) (Nat.le_refl _) same_new).mono ?_; rintro e w6 ⟨rfl, hb6⟩; have HBd := Aside0.mk (below_step HBc.out hb6); clear hb6) | (go_at_call 10; refine (awake_calls w6).mono ?_; rintro e w7 ⟨rfl, hb7⟩; have HBe := Aside0.mk (below_step HBd.out hb7); clear hb7))
    all_goals
      go_wp2_with (fail)
      go_ret
      exact ⟨rfl, below_step HB2.out HBe.out⟩

theorem jobshelllaw46_EditorValids.calls (k : Nat) (a0_0 : ByteArray) (a0_1 : Int) (a0_2 : Int) (A0_3 : Option Addr) (c0_3 : Nat) (l0_3 : List ByteArray) (A0_4 : Option Addr) (c0_4 : Nat) (l0_4 : List (S23)) (A0_5 : Option Addr) (c0_5 : Nat) (l0_5 : List (S23)) (a0_6 : ByteArray) (a0_7 : Int) (a0_8 : Int) (a0_9 : ByteArray) (r : Bool) (w : World) (hr0_3 : Kd.C Kd.string w A0_3 l0_3.length l0_3) (hc0_3 : l0_3.length ≤ c0_3) (hr0_4 : Kd.C k23 w A0_4 l0_4.length l0_4) (hc0_4 : l0_4.length ≤ c0_4) (hr0_5 : Kd.C k23 w A0_5 l0_5.length l0_5) (hc0_5 : l0_5.length ≤ c0_5) (h : jobshelllaw46_EditorValids.f k a0_0 a0_1 a0_2 l0_3 l0_4 l0_5 a0_6 a0_7 a0_8 a0_9 = some r) :
    Calls Try.prog 3 #[.agg #[.string a0_0, .int .i64 a0_1, .int .i64 a0_2, .slice A0_3 l0_3.length c0_3, .slice A0_4 l0_4.length c0_4, .slice A0_5 l0_5.length c0_5, .string a0_6, .int .i64 a0_7, .int .i64 a0_8, .string a0_9]] w fun e w' => e = .returned (.bool r) ∧ Below w.heap.size w w' := by
  unfold jobshelllaw46_EditorValids.f at h
  split at h
  · rename_i hs
    injection h with h
    subst h
    exact valids_walk w ⟨a0_0, a0_1, a0_2, l0_3, l0_4, l0_5, a0_6, a0_7, a0_8, a0_9, 0, []⟩ A0_3 A0_4 A0_5 c0_3 c0_4 c0_5 hs hr0_3 hc0_3 hr0_4 hc0_4 hr0_5 hc0_5
  · cases h
end Go.Proofs.Ytlbbjdggebgabaa.P
end

section
/- What the arguments of EditorValids read as. -/
namespace Go.Proofs.Ytlbbjdggebgabaa.editorValids
open Go Go.RowKit Go.Proofs.YtlbbjdggebgabaaW.PrintWords Go.Proofs.Ytlbbjdggebgabaa.P Go.Proofs.Ytlbbjdggebgabaa.Op
set_option linter.unusedVariables false
def ok23 (x : S23) : Prop := x.f0.size ≤ 140737488351232 ∧ (Lit.int .i64 x.f1).wf = true
theorem open23 : Opens Try.prog 23 k23 ok23 := by
  apply opens_struct (d := (Kd.pair Kd.string (Kd.int .i64))) (S := fun y => (y.1.size ≤ 140737488351232 ∧ (Lit.int .i64 y.2).wf = true)) Try.underlying23 (by kernel_rfl) (fun x : S23 => (x.f0, x.f1)) (fun y => (⟨y.1, y.2⟩ : S23)) (fun _ => rfl)
  apply opensFs_cons (d0 := Kd.string) (d := (Kd.int .i64)) (S0 := fun y => y.size ≤ 140737488351232) (S := fun y => (Lit.int .i64 y).wf = true)
  · rfl
  · kernel_rfl
  · exact (opens_string Try.underlying9)
  apply opensFs_one (d := (Kd.int .i64)) (S := fun y => (Lit.int .i64 y).wf = true)
  · rfl
  · kernel_rfl
  · exact (opens_int Try.underlying3)
def ok27 (x : S27) : Prop := ok23 x.f0 ∧ (Lit.int .i64 x.f1).wf = true ∧ SL 16 (fun x => x.size ≤ 140737488351232) x.f2 ∧ SL 24 ok23 x.f3 ∧ SL 24 ok23 x.f4 ∧ x.f5.size ≤ 140737488351232 ∧ (Lit.int .i64 x.f6).wf = true ∧ (Lit.int .i64 x.f7).wf = true ∧ x.f8.size ≤ 140737488351232
theorem open27 : Opens Try.prog 27 k27 ok27 := by
  apply opens_struct (d := (Kd.pair k23 (Kd.pair (Kd.int .i64) (Kd.pair (Kd.slice 9 Kd.string) (Kd.pair (Kd.slice 23 k23) (Kd.pair (Kd.slice 23 k23) (Kd.pair Kd.string (Kd.pair (Kd.int .i64) (Kd.pair (Kd.int .i64) Kd.string))))))))) (S := fun y => (ok23 y.1 ∧ ((Lit.int .i64 y.2.1).wf = true ∧ (SL 16 (fun x => x.size ≤ 140737488351232) y.2.2.1 ∧ (SL 24 ok23 y.2.2.2.1 ∧ (SL 24 ok23 y.2.2.2.2.1 ∧ (y.2.2.2.2.2.1.size ≤ 140737488351232 ∧ ((Lit.int .i64 y.2.2.2.2.2.2.1).wf = true ∧ ((Lit.int .i64 y.2.2.2.2.2.2.2.1).wf = true ∧ y.2.2.2.2.2.2.2.2.size ≤ 140737488351232))))))))) Try.underlying27 (by kernel_rfl) (fun x : S27 => (x.f0, x.f1, x.f2, x.f3, x.f4, x.f5, x.f6, x.f7, x.f8)) (fun y => (⟨y.1, y.2.1, y.2.2.1, y.2.2.2.1, y.2.2.2.2.1, y.2.2.2.2.2.1, y.2.2.2.2.2.2.1, y.2.2.2.2.2.2.2.1, y.2.2.2.2.2.2.2.2⟩ : S27)) (fun _ => rfl)
  apply opensFs_cons (d0 := k23) (d := (Kd.pair (Kd.int .i64) (Kd.pair (Kd.slice 9 Kd.string) (Kd.pair (Kd.slice 23 k23) (Kd.pair (Kd.slice 23 k23) (Kd.pair Kd.string (Kd.pair (Kd.int .i64) (Kd.pair (Kd.int .i64) Kd.string)))))))) (S0 := fun y => ok23 y) (S := fun y => ((Lit.int .i64 y.1).wf = true ∧ (SL 16 (fun x => x.size ≤ 140737488351232) y.2.1 ∧ (SL 24 ok23 y.2.2.1 ∧ (SL 24 ok23 y.2.2.2.1 ∧ (y.2.2.2.2.1.size ≤ 140737488351232 ∧ ((Lit.int .i64 y.2.2.2.2.2.1).wf = true ∧ ((Lit.int .i64 y.2.2.2.2.2.2.1).wf = true ∧ y.2.2.2.2.2.2.2.size ≤ 140737488351232))))))))
  · rfl
  · kernel_rfl
  · exact open23
  apply opensFs_cons (d0 := (Kd.int .i64)) (d := (Kd.pair (Kd.slice 9 Kd.string) (Kd.pair (Kd.slice 23 k23) (Kd.pair (Kd.slice 23 k23) (Kd.pair Kd.string (Kd.pair (Kd.int .i64) (Kd.pair (Kd.int .i64) Kd.string))))))) (S0 := fun y => (Lit.int .i64 y).wf = true) (S := fun y => (SL 16 (fun x => x.size ≤ 140737488351232) y.1 ∧ (SL 24 ok23 y.2.1 ∧ (SL 24 ok23 y.2.2.1 ∧ (y.2.2.2.1.size ≤ 140737488351232 ∧ ((Lit.int .i64 y.2.2.2.2.1).wf = true ∧ ((Lit.int .i64 y.2.2.2.2.2.1).wf = true ∧ y.2.2.2.2.2.2.size ≤ 140737488351232)))))))
  · rfl
  · kernel_rfl
  · exact (opens_int Try.underlying3)
  apply opensFs_cons (d0 := (Kd.slice 9 Kd.string)) (d := (Kd.pair (Kd.slice 23 k23) (Kd.pair (Kd.slice 23 k23) (Kd.pair Kd.string (Kd.pair (Kd.int .i64) (Kd.pair (Kd.int .i64) Kd.string)))))) (S0 := fun y => SL 16 (fun x => x.size ≤ 140737488351232) y) (S := fun y => (SL 24 ok23 y.1 ∧ (SL 24 ok23 y.2.1 ∧ (y.2.2.1.size ≤ 140737488351232 ∧ ((Lit.int .i64 y.2.2.2.1).wf = true ∧ ((Lit.int .i64 y.2.2.2.2.1).wf = true ∧ y.2.2.2.2.2.size ≤ 140737488351232))))))
  · rfl
  · kernel_rfl
  · exact (opens_slice (B := 16) Try.underlying24 (by kernel_rfl) (by kernel_rfl) (opens_string Try.underlying9))
  apply opensFs_cons (d0 := (Kd.slice 23 k23)) (d := (Kd.pair (Kd.slice 23 k23) (Kd.pair Kd.string (Kd.pair (Kd.int .i64) (Kd.pair (Kd.int .i64) Kd.string))))) (S0 := fun y => SL 24 ok23 y) (S := fun y => (SL 24 ok23 y.1 ∧ (y.2.1.size ≤ 140737488351232 ∧ ((Lit.int .i64 y.2.2.1).wf = true ∧ ((Lit.int .i64 y.2.2.2.1).wf = true ∧ y.2.2.2.2.size ≤ 140737488351232)))))
  · rfl
  · kernel_rfl
  · exact (opens_slice (B := 24) Try.underlying25 (by kernel_rfl) (by kernel_rfl) open23)
  apply opensFs_cons (d0 := (Kd.slice 23 k23)) (d := (Kd.pair Kd.string (Kd.pair (Kd.int .i64) (Kd.pair (Kd.int .i64) Kd.string)))) (S0 := fun y => SL 24 ok23 y) (S := fun y => (y.1.size ≤ 140737488351232 ∧ ((Lit.int .i64 y.2.1).wf = true ∧ ((Lit.int .i64 y.2.2.1).wf = true ∧ y.2.2.2.size ≤ 140737488351232))))
  · rfl
  · kernel_rfl
  · exact (opens_slice (B := 24) Try.underlying25 (by kernel_rfl) (by kernel_rfl) open23)
  apply opensFs_cons (d0 := Kd.string) (d := (Kd.pair (Kd.int .i64) (Kd.pair (Kd.int .i64) Kd.string))) (S0 := fun y => y.size ≤ 140737488351232) (S := fun y => ((Lit.int .i64 y.1).wf = true ∧ ((Lit.int .i64 y.2.1).wf = true ∧ y.2.2.size ≤ 140737488351232)))
  · rfl
  · kernel_rfl
  · exact (opens_string Try.underlying9)
  apply opensFs_cons (d0 := (Kd.int .i64)) (d := (Kd.pair (Kd.int .i64) Kd.string)) (S0 := fun y => (Lit.int .i64 y).wf = true) (S := fun y => ((Lit.int .i64 y.1).wf = true ∧ y.2.size ≤ 140737488351232))
  · rfl
  · kernel_rfl
  · exact (opens_int Try.underlying3)
  apply opensFs_cons (d0 := (Kd.int .i64)) (d := Kd.string) (S0 := fun y => (Lit.int .i64 y).wf = true) (S := fun y => y.size ≤ 140737488351232)
  · rfl
  · kernel_rfl
  · exact (opens_int Try.underlying3)
  apply opensFs_one (d := Kd.string) (S := fun y => y.size ≤ 140737488351232)
  · rfl
  · kernel_rfl
  · exact (opens_string Try.underlying9)
def Pure : Prop := ∀ (a0 : S27), ok27 a0 → ∃ k, jobshelllaw46_EditorValids.f k a0.f0.f0 a0.f0.f1 a0.f1 a0.f2 a0.f3 a0.f4 a0.f5 a0.f6 a0.f7 a0.f8 = some true
end Go.Proofs.Ytlbbjdggebgabaa.editorValids
end

section
/- EditorValids: New and Valid agree with the specification. No conditions. -/
namespace Go.Proofs.Ytlbbjdggebgabaa.Pure
open Go Go.RowKit Go.Proofs.Ytlbbjdggebgabaa.P Go.Proofs.Ytlbbjdggebgabaa.Op
theorem EditorValids : editorValids.Pure := fun a h => by
  refine ⟨0, ?_⟩
  unfold jobshelllaw46_EditorValids.f
  rw [if_pos]
  obtain ⟨h0, h1, h2, h3, h4, h5, h6, h7, h8⟩ := h
  have e2 := h2.2.1
  have e3 := h3.2.1
  have e4 := h4.2.1
  exact ⟨h0.1, h5, h8, by show a.f2.length ≤ _; omega, by show a.f3.length ≤ _; omega, by show a.f4.length ≤ _; omega, by simp, h2.2.2, fun x hx => (h3.2.2 x hx).1, fun x hx => (h4.2.2 x hx).1⟩
end Go.Proofs.Ytlbbjdggebgabaa.Pure
end
