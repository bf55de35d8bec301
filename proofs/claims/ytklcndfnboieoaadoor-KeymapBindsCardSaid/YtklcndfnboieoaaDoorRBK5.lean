/- The lists of bindings: what Find and Valid come to, the program's and the reference's alike. -/
import Derived.Test.YtklcndfnboieoaaDoorRBK3
import Derived.Test.YtklcndfnboieoaaDoorRBPx3
import Derived.Test.YtklcndfnboieoaaDoorRBPx8
import Derived.Test.YtklcndfnboieoaaDoorRBPx9
import Derived.Test.YtklcndfnboieoaaDoorRBPx7
namespace Go.Proofs.YtklcndfnboieoaaDoor.K
set_option linter.unusedVariables false
set_option linter.unusedSimpArgs false
open Go Go.RowKit Go.Proofs.YtklcndfnboieoaaDoorW.PrintWords Go.Proofs.YtklcndfnboieoaaDoor.P

/-- Is a string the begin of another? -/
def pre (a b : ByteArray) : Bool := decide (a.size ≤ b.size) && ((b.extract 0 a.size).toList == a.toList)
theorem hasPrefix_tells (b a : ByteArray) : strings_HasPrefix.f b a = some (pre a b) := by
  unfold strings_HasPrefix.f stringslite_HasPrefix.f pre
  by_cases h : a.size ≤ b.size
  · rw [if_pos (by omega), if_pos (by omega), if_pos (by omega), decide_eq_true h]
    simp
  · rw [if_neg (by omega), decide_eq_false h]
    simp
theorem begins_tells (a b : ByteArray) : jobshellref45_Begins.f a b = some (pre a b) := by
  unfold jobshellref45_Begins.f pre
  by_cases h : a.size ≤ b.size
  · rw [if_pos (by omega), if_pos (by omega), decide_eq_true h]
    simp
  · rw [if_neg (by omega), decide_eq_false h]
    simp
theorem rd_nat (l : List S45) (i : Nat) (h : i < l.length) : rd_T45 l (i : Int) = l[i] := by
  unfold rd_T45
  simp [List.getD_eq_getElem?_getD, List.getElem?_eq_getElem h]

def findS (keys : ByteArray) : List S45 → Bool → Int → Int → Int × Int
  | [], _, n, more => (n, more)
  | b :: r, found, n, more =>
    findS keys r (found || decide (b.f0.toList = keys.toList)) (if decide (b.f0.toList = keys.toList) && !found then b.f1 else n) (if decide (b.f0.size > keys.size) && pre keys b.f0 then 1 else more)
theorem find_ev (l : List S45) (keys : ByteArray) (hl : l.length ≤ 1000000) : ∀ m i found n more, l.length - i = m → i ≤ l.length → Ev (fun k => keymap_Find.l0 k keys found n more l (l.length : Int) (i : Int)) (findS keys (l.drop i) found n more) := by
  intro m
  induction m with
  | zero =>
    intro i found n more hm hi
    rw [List.drop_eq_nil_of_le (by omega)]
    exact Ev.shift 1 fun k => by rw [keymap_Find.l0, if_neg (by omega)]; rfl
  | succ m ih =>
    intro i found n more hm hi
    have hlt : i < l.length := by omega
    have g1 : (i : Int) < (l.length : Int) := by omega
    have g2 : (0 : Int) ≤ (i : Int) := by omega
    have hw : wrap64 ((i : Int) + 1) = ((i + 1 : Nat) : Int) := by rw [wrap_in] <;> omega
    rw [List.drop_eq_getElem_cons hlt, findS]
    have hr := rd_nat l i hlt
    refine Ev.shiftE 2 (fun k => ?_) (ih (i + 1) _ _ _ (by omega) (by omega))
    rw [keymap_Find.l0, if_pos g1, if_pos g2, if_pos g1, hr]
    by_cases hk : l[i].f0.toList = keys.toList
    · rw [if_pos hk]
      cases found <;> rw [keymap_Find.j1] <;> simp only [Bool.not_true, Bool.not_false, if_true, Bool.false_eq_true, if_false, hasPrefix_tells, Option.bind_some, hw, hk, decide_true, Bool.true_and, Bool.or_true] <;> by_cases hz : l[i].f0.size > keys.size
      all_goals first
        | (rw [if_pos (by omega : (l[i].f0.size : Int) > (keys.size : Int)), decide_eq_true hz]; cases pre keys l[i].f0 <;> simp)
        | (rw [if_neg (by omega : ¬ (l[i].f0.size : Int) > (keys.size : Int)), decide_eq_false hz]; simp)
    · rw [if_neg hk]
      cases found <;> rw [keymap_Find.j1] <;> simp only [Bool.not_true, Bool.not_false, if_true, Bool.false_eq_true, if_false, hasPrefix_tells, Option.bind_some, hw, hk, decide_false, Bool.false_and, Bool.or_false] <;> by_cases hz : l[i].f0.size > keys.size
      all_goals first
        | (rw [if_pos (by omega : (l[i].f0.size : Int) > (keys.size : Int)), decide_eq_true hz]; cases pre keys l[i].f0 <;> simp)
        | (rw [if_neg (by omega : ¬ (l[i].f0.size : Int) > (keys.size : Int)), decide_eq_false hz]; simp)
theorem find_tells (l : List S45) (keys : ByteArray) (hl : l.length ≤ 1000000) : Ev (fun k => keymap_Find.f k l keys) (findS keys l false 0 0) :=
  Ev.congr (fun k => rfl) (find_ev l keys hl _ 0 false 0 0 rfl (by omega))

def less (a b : ByteArray) : Bool := Op.bytesLess a.toList b.toList
def validS : List S45 → Option S45 → Int
  | [], _ => 0
  | b :: r, p =>
    if b.f0.toList = [] then 1 else if b.f0.size > 16 then 3 else if ¬ (1 ≤ b.f1 ∧ b.f1 ≤ 28) then 2 else
    match p with
    | none => validS r (some b)
    | some a => if !less a.f0 b.f0 then 1 else if pre a.f0 b.f0 then 9 else validS r (some b)
theorem validS_cons (b : S45) (r : List S45) (p : Option S45) : validS (b :: r) p = (if b.f0.toList = [] then 1 else if b.f0.size > 16 then 3 else if ¬ (1 ≤ b.f1 ∧ b.f1 ≤ 28) then 2 else
    match p with
    | none => validS r (some b)
    | some a => if !less a.f0 b.f0 then 1 else if pre a.f0 b.f0 then 9 else validS r (some b)) := by cases p <;> rfl
theorem action_tells (n : Int) : keymap_action.f n = some (decide (1 ≤ n ∧ n ≤ 28)) := by
  unfold keymap_action.f
  by_cases h : n ≥ 1
  · rw [if_pos h]; congr 1; simp; omega
  · rw [if_neg h]; congr 1; simp; omega
theorem refaction_tells (n : Int) : jobshellref45_action.f n = some (decide (1 ≤ n ∧ n ≤ 28)) := by
  unfold jobshellref45_action.f
  by_cases h : n ≥ 1
  · rw [if_pos h]; congr 1; simp; omega
  · rw [if_neg h]; congr 1; simp; omega
def prevOf (l : List S45) (i : Nat) : Option S45 := if i = 0 then none else l[i - 1]?
theorem valid_ev (l : List S45) (hl : l.length ≤ 1000000) : ∀ m i, l.length - i = m → i ≤ l.length → Ev (fun k => keymap_Valid.l0 k l l (l.length : Int) (i : Int)) (validS (l.drop i) (prevOf l i)) := by
  intro m
  induction m with
  | zero =>
    intro i hm hi
    rw [List.drop_eq_nil_of_le (by omega)]
    exact Ev.shift 1 fun k => by rw [keymap_Valid.l0, if_neg (by omega)]; simp [validS]
  | succ m ih =>
    intro i hm hi
    have hlt : i < l.length := by omega
    have g1 : (i : Int) < (l.length : Int) := by omega
    have g2 : (0 : Int) ≤ (i : Int) := by omega
    have hw : wrap64 ((i : Int) + 1) = ((i + 1 : Nat) : Int) := by rw [wrap_in] <;> omega
    have hr := rd_nat l i hlt
    have ih' := ih (i + 1) (by omega) (by omega)
    have hp1 : prevOf l (i + 1) = some l[i] := by unfold prevOf; rw [if_neg (by omega)]; simp [List.getElem?_eq_getElem hlt]
    rw [hp1] at ih'
    rw [List.drop_eq_getElem_cons hlt, validS_cons]
    have head : ∀ k, keymap_Valid.l0 (k + 1) l l (l.length : Int) (i : Int) = (if l[i].f0.toList = ([] : List UInt8) then some 1 else if (l[i].f0.size : Int) > 16 then some 3 else if decide (1 ≤ l[i].f1 ∧ l[i].f1 ≤ 28) = true then (if (i : Int) > 0 then (if 0 ≤ wrap64 ((i : Int) - 1) then (if wrap64 ((i : Int) - 1) < (l.length : Int) then keymap_Valid.j1 k l (i : Int) l (l.length : Int) (i : Int) (!(Op.bytesLess ((rd_T45 l (wrap64 ((i : Int) - 1))).f0.toList) l[i].f0.toList)) l[i].f0 l[i].f1 else none) else none) else keymap_Valid.j1 k l (i : Int) l (l.length : Int) (i : Int) false l[i].f0 l[i].f1) else some 2) := by
      intro k
      rw [keymap_Valid.l0, if_pos g1, if_pos g2, if_pos g1, hr, action_tells]
      rfl
    by_cases c1 : l[i].f0.toList = []
    · rw [if_pos c1]; exact Ev.shift 1 fun k => by rw [head, if_pos c1]
    rw [if_neg c1]
    by_cases c2 : l[i].f0.size > 16
    · rw [if_pos c2]; exact Ev.shift 1 fun k => by rw [head, if_neg c1, if_pos (by omega)]
    rw [if_neg c2]
    have c2' : ¬ (l[i].f0.size : Int) > 16 := by omega
    by_cases c3 : 1 ≤ l[i].f1 ∧ l[i].f1 ≤ 28
    · rw [if_neg (fun h => h c3)]
      by_cases h0 : i = 0
      · have hp : prevOf l i = none := by unfold prevOf; rw [if_pos h0]
        rw [hp]
        refine Ev.shiftE 2 (fun k => ?_) ih'
        rw [head, if_neg c1, if_neg c2', if_pos (decide_eq_true c3), if_neg (by omega), keymap_Valid.j1, if_neg (by decide), if_neg (by omega), hw]
      · have hlt1 : i - 1 < l.length := by omega
        have hp : prevOf l i = some l[i - 1] := by unfold prevOf; rw [if_neg h0, List.getElem?_eq_getElem hlt1]
        have hw1 : wrap64 ((i : Int) - 1) = ((i - 1 : Nat) : Int) := by rw [wrap_in] <;> omega
        have hr1 := rd_nat l (i - 1) hlt1
        rw [hp]
        simp only
        have head2 : ∀ k, keymap_Valid.l0 (k + 2) l l (l.length : Int) (i : Int) = (if !less l[i - 1].f0 l[i].f0 then some 1 else if pre l[i - 1].f0 l[i].f0 = true then some 9 else keymap_Valid.l0 k l l (l.length : Int) ((i + 1 : Nat) : Int)) := by
          intro k
          rw [head, if_neg c1, if_neg c2', if_pos (decide_eq_true c3), if_pos (by omega), hw1, if_pos (by omega), if_pos (by omega), hr1, keymap_Valid.j1, hw1, hr1, hasPrefix_tells, Option.bind_some, hw]
          rw [if_pos (by omega : (i : Int) > 0), if_pos (by omega : (0 : Int) ≤ ((i - 1 : Nat) : Int)), if_pos (by omega : ((i - 1 : Nat) : Int) < (l.length : Int))]
          rfl
        by_cases c4 : (!less l[i - 1].f0 l[i].f0) = true
        · rw [if_pos c4]; exact Ev.shift 2 fun k => by rw [head2, if_pos c4]
        rw [if_neg c4]
        by_cases c5 : pre l[i - 1].f0 l[i].f0 = true
        · rw [if_pos c5]; exact Ev.shift 2 fun k => by rw [head2, if_neg c4, if_pos c5]
        rw [if_neg c5]
        exact Ev.shiftE 2 (fun k => by rw [head2, if_neg c4, if_neg c5]) ih'
    · rw [if_pos c3]
      exact Ev.shift 1 fun k => by rw [head, if_neg c1, if_neg c2', if_neg (by rw [decide_eq_true_eq]; exact c3)]
theorem refvalid_ev (l : List S45) (hl : l.length ≤ 1000000) : ∀ m i, l.length - i = m → i ≤ l.length → Ev (fun k => jobshellref45_Valid.l0 k l (i : Int)) (validS (l.drop i) (prevOf l i)) := by
  intro m
  induction m with
  | zero =>
    intro i hm hi
    rw [List.drop_eq_nil_of_le (by omega)]
    exact Ev.shift 1 fun k => by rw [jobshellref45_Valid.l0, if_neg (by omega)]; simp [validS]
  | succ m ih =>
    intro i hm hi
    have hlt : i < l.length := by omega
    have g1 : (i : Int) < (l.length : Int) := by omega
    have g2 : (0 : Int) ≤ (i : Int) := by omega
    have hw : wrap64 ((i : Int) + 1) = ((i + 1 : Nat) : Int) := by rw [wrap_in] <;> omega
    have hr := rd_nat l i hlt
    have ih' := ih (i + 1) (by omega) (by omega)
    have hp1 : prevOf l (i + 1) = some l[i] := by unfold prevOf; rw [if_neg (by omega)]; simp [List.getElem?_eq_getElem hlt]
    rw [hp1] at ih'
    rw [List.drop_eq_getElem_cons hlt, validS_cons]
    have head : ∀ k, jobshellref45_Valid.l0 (k + 1) l (i : Int) = (if l[i].f0.toList = ([] : List UInt8) then some 1 else if (l[i].f0.size : Int) > 16 then some 3 else if decide (1 ≤ l[i].f1 ∧ l[i].f1 ≤ 28) = true then (if (i : Int) > 0 then (if 0 ≤ wrap64 ((i : Int) - 1) then (if wrap64 ((i : Int) - 1) < (l.length : Int) then jobshellref45_Valid.j1 k l (i : Int) (!(Op.bytesLess ((rd_T45 l (wrap64 ((i : Int) - 1))).f0.toList) l[i].f0.toList)) else none) else none) else jobshellref45_Valid.j1 k l (i : Int) false) else some 2) := by
      intro k
      rw [jobshellref45_Valid.l0, if_pos g1, if_pos g2, hr, refaction_tells]
      rfl
    by_cases c1 : l[i].f0.toList = []
    · rw [if_pos c1]; exact Ev.shift 1 fun k => by rw [head, if_pos c1]
    rw [if_neg c1]
    by_cases c2 : l[i].f0.size > 16
    · rw [if_pos c2]; exact Ev.shift 1 fun k => by rw [head, if_neg c1, if_pos (by omega)]
    rw [if_neg c2]
    have c2' : ¬ (l[i].f0.size : Int) > 16 := by omega
    by_cases c3 : 1 ≤ l[i].f1 ∧ l[i].f1 ≤ 28
    · rw [if_neg (fun h => h c3)]
      by_cases h0 : i = 0
      · have hp : prevOf l i = none := by unfold prevOf; rw [if_pos h0]
        rw [hp]
        refine Ev.shiftE 2 (fun k => ?_) ih'
        rw [head, if_neg c1, if_neg c2', if_pos (decide_eq_true c3), if_neg (by omega), jobshellref45_Valid.j1, if_neg (by decide), if_neg (by omega), hw]
      · have hlt1 : i - 1 < l.length := by omega
        have hp : prevOf l i = some l[i - 1] := by unfold prevOf; rw [if_neg h0, List.getElem?_eq_getElem hlt1]
        have hw1 : wrap64 ((i : Int) - 1) = ((i - 1 : Nat) : Int) := by rw [wrap_in] <;> omega
        have hr1 := rd_nat l (i - 1) hlt1
        rw [hp]
        simp only
        have head2 : ∀ k, jobshellref45_Valid.l0 (k + 2) l (i : Int) = (if !less l[i - 1].f0 l[i].f0 then some 1 else if pre l[i - 1].f0 l[i].f0 = true then some 9 else jobshellref45_Valid.l0 k l ((i + 1 : Nat) : Int)) := by
          intro k
          rw [head, if_neg c1, if_neg c2', if_pos (decide_eq_true c3), if_pos (by omega), hw1, if_pos (by omega), if_pos (by omega), hr1, jobshellref45_Valid.j1, hw1, hr1, hr, begins_tells, Option.bind_some, hw]
          rw [if_pos (by omega : (i : Int) > 0), if_pos (by omega : (0 : Int) ≤ ((i - 1 : Nat) : Int)), if_pos (by omega : ((i - 1 : Nat) : Int) < (l.length : Int)), if_pos g2, if_pos g1]
          rfl
        by_cases c4 : (!less l[i - 1].f0 l[i].f0) = true
        · rw [if_pos c4]; exact Ev.shift 2 fun k => by rw [head2, if_pos c4]
        rw [if_neg c4]
        by_cases c5 : pre l[i - 1].f0 l[i].f0 = true
        · rw [if_pos c5]; exact Ev.shift 2 fun k => by rw [head2, if_neg c4, if_pos c5]
        rw [if_neg c5]
        exact Ev.shiftE 2 (fun k => by rw [head2, if_neg c4, if_neg c5]) ih'
    · rw [if_pos c3]
      exact Ev.shift 1 fun k => by rw [head, if_neg c1, if_neg c2', if_neg (by rw [decide_eq_true_eq]; exact c3)]
def validAll (l : List S45) : Int := if l.length > 512 then 4 else validS l none
theorem valid_tells (l : List S45) : Ev (fun k => keymap_Valid.f k l) (validAll l) := by
  unfold keymap_Valid.f validAll
  by_cases h : l.length > 512
  · rw [if_pos h]; exact Ev.congr (fun k => if_pos (by omega)) (Ev.now _)
  · rw [if_neg h]
    exact Ev.congr (fun k => if_neg (by omega)) (valid_ev l (by omega) _ 0 rfl (by omega))
theorem refvalid_tells (l : List S45) : Ev (fun k => jobshellref45_Valid.f k l) (validAll l) := by
  unfold jobshellref45_Valid.f validAll
  by_cases h : l.length > 512
  · rw [if_pos h]; exact Ev.congr (fun k => if_pos (by omega)) (Ev.now _)
  · rw [if_neg h]
    exact Ev.congr (fun k => if_neg (by omega)) (refvalid_ev l (by omega) _ 0 rfl (by omega))

theorem few_ev (l : List S45) (hl : l.length ≤ 600) (hs : ∀ b ∈ l, b.f0.size ≤ 140737488351232) : ∀ m i (n : Int), 0 ≤ n → n ≤ 6000 → l.length - i = m → i ≤ l.length → ∃ b, Ev (fun k => jobshelllaw45_few.l0 k l n (i : Int)) b := by
  intro m
  induction m with
  | zero =>
    intro i n _ _ hm hi
    exact ⟨true, Ev.shift 1 fun k => by rw [jobshelllaw45_few.l0, if_neg (by omega)]⟩
  | succ m ih =>
    intro i n h0 h1 hm hi
    have hlt : i < l.length := by omega
    have hr := rd_nat l i hlt
    have hz := hs l[i] (List.getElem_mem hlt)
    have hw : wrap64 ((i : Int) + 1) = ((i + 1 : Nat) : Int) := by rw [wrap_in] <;> omega
    have hw2 : wrap64 (n + (l[i].f0.size : Int)) = n + (l[i].f0.size : Int) := by rw [wrap_in] <;> omega
    have head : ∀ k, jobshelllaw45_few.l0 (k + 1) l n (i : Int) = if n + (l[i].f0.size : Int) > 6000 then some false else jobshelllaw45_few.l0 k l (n + (l[i].f0.size : Int)) ((i + 1 : Nat) : Int) := by
      intro k
      rw [jobshelllaw45_few.l0, if_pos (by omega), if_pos (by omega), hr, hw2, hw]
    by_cases hc : n + (l[i].f0.size : Int) > 6000
    · exact ⟨false, Ev.shift 1 fun k => by rw [head, if_pos hc]⟩
    · obtain ⟨b, hb⟩ := ih (i + 1) (n + (l[i].f0.size : Int)) (by omega) (by omega) (by omega) (by omega)
      exact ⟨b, Ev.shiftE 1 (fun k => by rw [head, if_neg hc]) hb⟩
/-- 'few' answers; and where it says yes there are at most 600. -/
theorem few_tells (l : List S45) (hs : ∀ b ∈ l, b.f0.size ≤ 140737488351232) : ∃ b, Ev (fun k => jobshelllaw45_few.f k l) b ∧ (b = true → l.length ≤ 600) := by
  unfold jobshelllaw45_few.f
  by_cases h : l.length > 600
  · exact ⟨false, Ev.congr (fun k => if_pos (by omega)) (Ev.now _), fun h => by cases h⟩
  · obtain ⟨b, hb⟩ := few_ev l (by omega) hs _ 0 0 (by omega) (by omega) rfl (by omega)
    exact ⟨b, Ev.congr (fun k => if_neg (by omega)) hb, fun _ => by omega⟩
theorem same_ev (l : List S45) (hl : l.length ≤ 1000000) : ∀ m i, l.length - i = m → i ≤ l.length → Ev (fun k => jobshellref45_Same.l0 k l l (i : Int)) true := by
  intro m
  induction m with
  | zero =>
    intro i hm hi
    exact Ev.shift 1 fun k => by rw [jobshellref45_Same.l0, if_neg (by omega)]
  | succ m ih =>
    intro i hm hi
    have hlt : i < l.length := by omega
    have hw : wrap64 ((i : Int) + 1) = ((i + 1 : Nat) : Int) := by rw [wrap_in] <;> omega
    refine Ev.shiftE 1 (fun k => ?_) (ih (i + 1) (by omega) (by omega))
    rw [jobshellref45_Same.l0, if_pos (by omega), if_pos (by omega), if_pos (by omega), hw]
    simp
theorem same_tells (l : List S45) (hl : l.length ≤ 1000000) : Ev (fun k => jobshellref45_Same.f k l l) true := by
  unfold jobshellref45_Same.f
  exact Ev.congr (fun k => if_pos rfl) (same_ev l hl _ 0 rfl (by omega))
end Go.Proofs.YtklcndfnboieoaaDoor.K
