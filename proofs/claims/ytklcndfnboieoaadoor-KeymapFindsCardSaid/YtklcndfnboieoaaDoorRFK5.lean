/- The lists of bindings: what Find and Valid come to, the program's and the reference's alike. -/
import Derived.Test.YtklcndfnboieoaaDoorRFK3
import Derived.Test.YtklcndfnboieoaaDoorRFPx3
import Derived.Test.YtklcndfnboieoaaDoorRFPx8
import Derived.Test.YtklcndfnboieoaaDoorRFPx9
import Derived.Test.YtklcndfnboieoaaDoorRFPx7
namespace Go.Proofs.YtklcndfnboieoaaDoor.K
set_option linter.unusedVariables false
set_option linter.unusedSimpArgs false
open Go Go.RowKit Go.Proofs.YtklcndfnboieoaaDoorW.PrintWords Go.Proofs.YtklcndfnboieoaaDoor.P

/-- Is a string the begin of another? -/
def pre (a b : ByteArray) : Bool := decide (a.size ≤ b.size) && ((b.extract 0 a.size).toList == a.toList)
theorem hasPrefix_tells (b a : ByteArray) : strings_HasPrefix.f b a = some (pre a b) := by
  unfold strings_HasPrefix.f stringslite_HasPrefix.f pre
  by_cases h : a.size ≤ b.size
  · rw [if_pos (by omega), if_pos (by omega), if_pos (by omega), decide_eq_true h]
    simp
  · rw [if_neg (by omega), decide_eq_false h]
    simp
theorem begins_tells (a b : ByteArray) : jobshellref45_Begins.f a b = some (pre a b) := by
  unfold jobshellref45_Begins.f pre
  by_cases h : a.size ≤ b.size
  · rw [if_pos (by omega), if_pos (by omega), decide_eq_true h]
    simp
  · rw [if_neg (by omega), decide_eq_false h]
    simp
theorem rd_nat (l : List S45) (i : Nat) (h : i < l.length) : rd_T45 l (i : Int) = l[i] := by
  unfold rd_T45
  simp [List.getD_eq_getElem?_getD, List.getElem?_eq_getElem h]

def findS (keys : ByteArray) : List S45 → Bool → Int → Int → Int × Int
  | [], _, n, more => (n, more)
  | b :: r, found, n, more =>
    findS keys r (found || decide (b.f0.toList = keys.toList)) (if decide (b.f0.toList = keys.toList) && !found then b.f1 else n) (if decide (b.f0.size > keys.size) && pre keys b.f0 then 1 else more)
theorem find_ev (l : List S45) (keys : ByteArray) (hl : l.length ≤ 1000000) : ∀ m i found n more, l.length - i = m → i ≤ l.length → Ev (fun k => keymap_Find.l0 k keys found n more l (l.length : Int) (i : Int)) (findS keys (l.drop i) found n more) := by
  intro m
  induction m with
  | zero =>
    intro i found n more hm hi
    rw [List.drop_eq_nil_of_le (by omega)]
    exact Ev.shift 1 fun k => by rw [keymap_Find.l0, if_neg (by omega)]; rfl
  | succ m ih =>
    intro i found n more hm hi
    have hlt : i < l.length := by omega
    have g1 : (i : Int) < (l.length : Int) := by omega
    have g2 : (0 : Int) ≤ (i : Int) := by omega
    have hw : wrap64 ((i : Int) + 1) = ((i + 1 : Nat) : Int) := by rw [wrap_in] <;> omega
    rw [List.drop_eq_getElem_cons hlt, findS]
    have hr := rd_nat l i hlt
    refine Ev.shiftE 2 (fun k => ?_) (ih (i + 1) _ _ _ (by omega) (by omega))
    rw [keymap_Find.l0, if_pos g1, if_pos g2, if_pos g1, hr]
    by_cases hk : l[i].f0.toList = keys.toList
    · rw [if_pos hk]
      cases found <;> rw [keymap_Find.j1] <;> simp only [Bool.not_true, Bool.not_false, if_true, Bool.false_eq_true, if_false, hasPrefix_tells, Option.bind_some, hw, hk, decide_true, Bool.true_and, Bool.or_true] <;> by_cases hz : l[i].f0.size > keys.size
      all_goals first
        | (rw [if_pos (by omega : (l[i].f0.size : Int) > (keys.size : Int)), decide_eq_true hz]; cases pre keys l[i].f0 <;> simp)
        | (rw [if_neg (by omega : ¬ (l[i].f0.size : Int) > (keys.size : Int)), decide_eq_false hz]; simp)
    · rw [if_neg hk]
      cases found <;> rw [keymap_Find.j1] <;> simp only [Bool.not_true, Bool.not_false, if_true, Bool.false_eq_true, if_false, hasPrefix_tells, Option.bind_some, hw, hk, decide_false, Bool.false_and, Bool.or_false] <;> by_cases hz : l[i].f0.size > keys.size
      all_goals first
        | (rw [if_pos (by omega : (l[i].f0.size : Int) > (keys.size : Int)), decide_eq_true hz]; cases pre keys l[i].f0 <;> simp)
        | (rw [if_neg (by omega : ¬ (l[i].f0.size : Int) > (keys.size : Int)), decide_eq_false hz]; simp)
theorem find_tells (l : List S45) (keys : ByteArray) (hl : l.length ≤ 1000000) : Ev (fun k => keymap_Find.f k l keys) (findS keys l false 0 0) :=
  Ev.congr (fun k => rfl) (find_ev l keys hl _ 0 false 0 0 rfl (by omega))
theorem reffind_ev (l : List S45) (keys : ByteArray) (hl : l.length ≤ 1000000) : ∀ m i found n more, l.length - i = m → i ≤ l.length → Ev (fun k => jobshellref45_Find.l0 k l keys n more found (i : Int)) (findS keys (l.drop i) found n more) := by
  intro m
  induction m with
  | zero =>
    intro i found n more hm hi
    rw [List.drop_eq_nil_of_le (by omega)]
    exact Ev.shift 1 fun k => by rw [jobshellref45_Find.l0, if_neg (by omega)]; rfl
  | succ m ih =>
    intro i found n more hm hi
    have hlt : i < l.length := by omega
    have g1 : (i : Int) < (l.length : Int) := by omega
    have g2 : (0 : Int) ≤ (i : Int) := by omega
    have hw : wrap64 ((i : Int) + 1) = ((i + 1 : Nat) : Int) := by rw [wrap_in] <;> omega
    rw [List.drop_eq_getElem_cons hlt, findS]
    have hr := rd_nat l i hlt
    refine Ev.shiftE 2 (fun k => ?_) (ih (i + 1) _ _ _ (by omega) (by omega))
    rw [jobshellref45_Find.l0, if_pos g1, if_pos g2, hr]
    by_cases hk : l[i].f0.toList = keys.toList
    · rw [if_pos hk]
      cases found <;> rw [jobshellref45_Find.j1] <;> simp only [Bool.not_true, Bool.not_false, if_true, Bool.false_eq_true, if_false, begins_tells, Option.bind_some, hw, hr, hk, decide_true, Bool.true_and, Bool.or_true, if_pos g1, if_pos g2] <;> by_cases hz : l[i].f0.size > keys.size
      all_goals first
        | (rw [if_pos (by omega : (l[i].f0.size : Int) > (keys.size : Int)), decide_eq_true hz]; cases pre keys l[i].f0 <;> simp)
        | (rw [if_neg (by omega : ¬ (l[i].f0.size : Int) > (keys.size : Int)), decide_eq_false hz]; simp)
    · rw [if_neg hk]
      cases found <;> rw [jobshellref45_Find.j1] <;> simp only [Bool.not_true, Bool.not_false, if_true, Bool.false_eq_true, if_false, begins_tells, Option.bind_some, hw, hr, hk, decide_false, Bool.false_and, Bool.or_false, if_pos g1, if_pos g2] <;> by_cases hz : l[i].f0.size > keys.size
      all_goals first
        | (rw [if_pos (by omega : (l[i].f0.size : Int) > (keys.size : Int)), decide_eq_true hz]; cases pre keys l[i].f0 <;> simp)
        | (rw [if_neg (by omega : ¬ (l[i].f0.size : Int) > (keys.size : Int)), decide_eq_false hz]; simp)
theorem reffind_tells (l : List S45) (keys : ByteArray) (hl : l.length ≤ 1000000) : Ev (fun k => jobshellref45_Find.f k l keys) (findS keys l false 0 0) :=
  Ev.congr (fun k => rfl) (reffind_ev l keys hl _ 0 false 0 0 rfl (by omega))

theorem few_ev (l : List S45) (hl : l.length ≤ 600) (hs : ∀ b ∈ l, b.f0.size ≤ 140737488351232) : ∀ m i (n : Int), 0 ≤ n → n ≤ 6000 → l.length - i = m → i ≤ l.length → ∃ b, Ev (fun k => jobshelllaw45_few.l0 k l n (i : Int)) b := by
  intro m
  induction m with
  | zero =>
    intro i n _ _ hm hi
    exact ⟨true, Ev.shift 1 fun k => by rw [jobshelllaw45_few.l0, if_neg (by omega)]⟩
  | succ m ih =>
    intro i n h0 h1 hm hi
    have hlt : i < l.length := by omega
    have hr := rd_nat l i hlt
    have hz := hs l[i] (List.getElem_mem hlt)
    have hw : wrap64 ((i : Int) + 1) = ((i + 1 : Nat) : Int) := by rw [wrap_in] <;> omega
    have hw2 : wrap64 (n + (l[i].f0.size : Int)) = n + (l[i].f0.size : Int) := by rw [wrap_in] <;> omega
    have head : ∀ k, jobshelllaw45_few.l0 (k + 1) l n (i : Int) = if n + (l[i].f0.size : Int) > 6000 then some false else jobshelllaw45_few.l0 k l (n + (l[i].f0.size : Int)) ((i + 1 : Nat) : Int) := by
      intro k
      rw [jobshelllaw45_few.l0, if_pos (by omega), if_pos (by omega), hr, hw2, hw]
    by_cases hc : n + (l[i].f0.size : Int) > 6000
    · exact ⟨false, Ev.shift 1 fun k => by rw [head, if_pos hc]⟩
    · obtain ⟨b, hb⟩ := ih (i + 1) (n + (l[i].f0.size : Int)) (by omega) (by omega) (by omega) (by omega)
      exact ⟨b, Ev.shiftE 1 (fun k => by rw [head, if_neg hc]) hb⟩
/-- 'few' answers; and where it says yes there are at most 600. -/
theorem few_tells (l : List S45) (hs : ∀ b ∈ l, b.f0.size ≤ 140737488351232) : ∃ b, Ev (fun k => jobshelllaw45_few.f k l) b ∧ (b = true → l.length ≤ 600) := by
  unfold jobshelllaw45_few.f
  by_cases h : l.length > 600
  · exact ⟨false, Ev.congr (fun k => if_pos (by omega)) (Ev.now _), fun h => by cases h⟩
  · obtain ⟨b, hb⟩ := few_ev l (by omega) hs _ 0 0 (by omega) (by omega) rfl (by omega)
    exact ⟨b, Ev.congr (fun k => if_neg (by omega)) hb, fun _ => by omega⟩
end Go.Proofs.YtklcndfnboieoaaDoor.K
