/- KeymapBinds, plain: the program's Bind comes to the reference's, and what it gives is valid and finds what was bound. -/
import Derived.Test.YtklcndfnboieoaaDoorRBK5
import Derived.Test.YtklcndfnboieoaaDoorH00
import Derived.Test.YtklcndfnboieoaaDoorRBPx4
import Derived.Test.YtklcndfnboieoaaDoorRBPx10
import Derived.Test.YtklcndfnboieoaaDoorRBPx11
namespace Go.Proofs.YtklcndfnboieoaaDoor.K
set_option linter.unusedVariables false
set_option linter.unusedSimpArgs false
open Go Go.RowKit Go.Proofs.YtklcndfnboieoaaDoorW.PrintWords Go.Proofs.YtklcndfnboieoaaDoor.P

theorem lt_trans3 {a b c : UInt8} (h : a < b) (k : b < c) : a < c := by rw [UInt8.lt_iff_toNat_lt] at *; omega
theorem lt_irr (a : UInt8) : ¬ a < a := by rw [UInt8.lt_iff_toNat_lt]; omega
theorem bless_trans : ∀ {x y z : List UInt8}, Op.bytesLess x y = true → Op.bytesLess y z = true → Op.bytesLess x z = true
  | _, [], _, h, _ => by simp [Op.bytesLess] at h
  | _, _ :: _, [], _, h => by simp [Op.bytesLess] at h
  | [], _ :: _, _ :: _, _, _ => rfl
  | a :: x, b :: y, c :: z, h, k => by
    simp only [Op.bytesLess, Bool.or_eq_true, decide_eq_true_eq, Bool.and_eq_true, beq_iff_eq] at *
    rcases h with h | ⟨rfl, h⟩
    · rcases k with k | ⟨rfl, k⟩
      · exact .inl (lt_trans3 h k)
      · exact .inl h
    · rcases k with k | ⟨rfl, k⟩
      · exact .inl k
      · exact .inr ⟨rfl, bless_trans h k⟩
/-- What lies between a string and one that it begins, it begins, too. -/
theorem between : ∀ {p q b : List UInt8}, Op.bytesLess p q = true → Op.bytesLess q b = true → p <+: b → p <+: q
  | [], _, _, _, _, _ => List.nil_prefix
  | a :: p, [], _, h, _, _ => by simp [Op.bytesLess] at h
  | a :: p, c :: q, [], _, h, _ => by simp [Op.bytesLess] at h
  | a :: p, c :: q, b :: r, h, k, hp => by
    obtain ⟨rfl, hq⟩ := List.cons_prefix_cons.1 hp
    clear hp
    simp only [Op.bytesLess, Bool.or_eq_true, decide_eq_true_eq, Bool.and_eq_true, beq_iff_eq] at h k
    rcases h with h | ⟨rfl, h⟩
    · rcases k with k | ⟨rfl, k⟩
      · exact absurd (lt_trans3 h k) (lt_irr _)
      · exact absurd h (lt_irr _)
    · rcases k with k | ⟨_, k⟩
      · exact absurd k (lt_irr _)
      · exact List.cons_prefix_cons.2 ⟨rfl, between h k hq⟩
theorem pre_iff (a b : ByteArray) : pre a b = true ↔ a.toList <+: b.toList := by
  unfold pre
  simp only [Bool.and_eq_true, decide_eq_true_eq, beq_iff_eq, ByteArray.toList_eq]
  have ha := data_length a
  have hb := data_length b
  have e : (b.extract 0 a.size).data.toList = b.data.toList.take a.size := by
    rw [ByteArray.data_extract]
    simp
  rw [e]
  constructor
  · rintro ⟨_, h⟩
    rw [← h]
    exact List.take_prefix _ _
  · intro h
    refine ⟨by have := h.length_le; omega, ?_⟩
    rw [← ha]
    exact (List.prefix_iff_eq_take.1 h).symm
theorem less_or {a b : ByteArray} (h : a.toList ≠ b.toList) : less b a = !less a b := by
  unfold less
  rw [← H.less_total a.toList b.toList]
  have : (a.toList == b.toList) = false := beq_eq_false_iff_ne.2 h
  rw [this, Bool.or_false]

def okB (b : S45) : Prop := b.f0.toList ≠ [] ∧ b.f0.size ≤ 16 ∧ 1 ≤ b.f1 ∧ b.f1 ≤ 28
def Rel (a b : S45) : Prop := less a.f0 b.f0 = true ∧ pre a.f0 b.f0 = false
def Good (l : List S45) : Prop := (∀ b ∈ l, okB b) ∧ l.Pairwise Rel
theorem rel_trans {a b c : S45} (h : Rel a b) (k : Rel b c) : Rel a c := by
  refine ⟨bless_trans h.1 k.1, ?_⟩
  rcases hp : pre a.f0 c.f0 with _ | _
  · rfl
  · have := (pre_iff _ _).2 (between h.1 k.1 ((pre_iff _ _).1 hp))
    rw [h.2] at this
    cases this
theorem good_some : ∀ (r : List S45) (p : S45), validS r (some p) = 0 → (∀ b ∈ r, okB b) ∧ (p :: r).Pairwise Rel
  | [], p, _ => ⟨by simp, by simp⟩
  | b :: r, p, h => by
    rw [validS_cons] at h
    by_cases c1 : b.f0.toList = []
    · rw [if_pos c1] at h; omega
    rw [if_neg c1] at h
    by_cases c2 : b.f0.size > 16
    · rw [if_pos c2] at h; omega
    rw [if_neg c2] at h
    by_cases c3 : 1 ≤ b.f1 ∧ b.f1 ≤ 28
    · rw [if_neg (fun h => h c3)] at h
      simp only at h
      by_cases c4 : (!less p.f0 b.f0) = true
      · rw [if_pos c4] at h; omega
      rw [if_neg c4] at h
      by_cases c5 : pre p.f0 b.f0 = true
      · rw [if_pos c5] at h; omega
      rw [if_neg c5] at h
      obtain ⟨h1, h2⟩ := good_some r b h
      have hr : Rel p b := ⟨by simpa using c4, by simpa using c5⟩
      refine ⟨?_, List.pairwise_cons.2 ⟨?_, h2⟩⟩
      · intro x hx
        rcases List.mem_cons.1 hx with rfl | hx
        · exact ⟨c1, by omega, c3.1, c3.2⟩
        · exact h1 x hx
      · intro x hx
        rcases List.mem_cons.1 hx with rfl | hx
        · exact hr
        · exact rel_trans hr ((List.pairwise_cons.1 h2).1 x hx)
    · rw [if_pos c3] at h; omega
theorem good_of : ∀ (l : List S45), validS l none = 0 → Good l
  | [], _ => ⟨by simp, by simp⟩
  | b :: r, h => by
    rw [validS_cons] at h
    by_cases c1 : b.f0.toList = []
    · rw [if_pos c1] at h; omega
    rw [if_neg c1] at h
    by_cases c2 : b.f0.size > 16
    · rw [if_pos c2] at h; omega
    rw [if_neg c2] at h
    by_cases c3 : 1 ≤ b.f1 ∧ b.f1 ≤ 28
    · rw [if_neg (fun h => h c3)] at h
      obtain ⟨h1, h2⟩ := good_some r b h
      refine ⟨?_, h2⟩
      intro x hx
      rcases List.mem_cons.1 hx with rfl | hx
      · exact ⟨c1, by omega, c3.1, c3.2⟩
      · exact h1 x hx
    · rw [if_pos c3] at h; omega
theorem some_good : ∀ (r : List S45) (p : S45), (∀ b ∈ r, okB b) → (p :: r).Pairwise Rel → validS r (some p) = 0
  | [], p, _, _ => rfl
  | b :: r, p, h, k => by
    obtain ⟨k1, k2⟩ := List.pairwise_cons.1 k
    obtain ⟨o1, o2, o3, o4⟩ := h b List.mem_cons_self
    have hr := k1 b List.mem_cons_self
    have ih := some_good r b (fun x hx => h x (List.mem_cons_of_mem _ hx)) k2
    rw [validS_cons, if_neg o1, if_neg (by omega), if_neg (fun h => h ⟨o3, o4⟩)]
    simp only [hr.1, hr.2, ih]
    rfl
theorem of_good : ∀ (l : List S45), Good l → validS l none = 0
  | [], _ => rfl
  | b :: r, h => by
    obtain ⟨o1, o2, o3, o4⟩ := h.1 b List.mem_cons_self
    rw [validS_cons, if_neg o1, if_neg (by omega), if_neg (fun h => h ⟨o3, o4⟩)]
    exact some_good r b (fun x hx => h.1 x (List.mem_cons_of_mem _ hx)) h.2

def others (l : List S45) (keys : ByteArray) : List S45 := l.filter fun b => decide (b.f0.toList ≠ keys.toList)
def clashes (l : List S45) (keys : ByteArray) : Bool := (others l keys).any fun b => pre keys b.f0 || pre b.f0 keys
def insert (l : List S45) (keys : ByteArray) (n : Int) : List S45 := l.takeWhile (fun b => less b.f0 keys) ++ ⟨keys, n⟩ :: l.dropWhile (fun b => less b.f0 keys)
def bindS (l : List S45) (keys : ByteArray) (n : Int) : List S45 × Int :=
  if validAll l ≠ 0 then (l, validAll l) else if keys.toList = [] then (l, 1) else if keys.size > 16 then (l, 3) else if n ≠ 0 ∧ ¬ (1 ≤ n ∧ n ≤ 28) then (l, 2)
  else if n = 0 then (if (others l keys).length = l.length then (l, 8) else (others l keys, 0))
  else if clashes l keys then (l, 9) else if (others l keys).length ≥ 512 then (l, 4) else (insert (others l keys) keys n, 0)

/-- The program's one pass: what it has so far, with what is left. -/
def passS (keys : ByteArray) (n : Int) : List S45 → List S45 → Bool → Bool → Bool → List S45 × Bool × Bool × Bool
  | [], out, found, clash, done => (out, found, clash, done)
  | b :: r, out, found, clash, done =>
    if b.f0.toList = keys.toList then passS keys n r out true clash done
    else if less keys b.f0 && !done then passS keys n r (out ++ [⟨keys, n⟩] ++ [b]) found (clash || pre keys b.f0 || pre b.f0 keys) true
    else passS keys n r (out ++ [b]) found (clash || pre keys b.f0 || pre b.f0 keys) done
def restS (keys : ByteArray) (n : Int) (out : List S45) (done : Bool) (r : List S45) : List S45 := out ++ if done then others r keys else insert (others r keys) keys n
theorem others_cons_eq {b : S45} {r : List S45} {keys : ByteArray} (h : b.f0.toList = keys.toList) : others (b :: r) keys = others r keys := by simp [others, h]
theorem others_cons_ne {b : S45} {r : List S45} {keys : ByteArray} (h : ¬ b.f0.toList = keys.toList) : others (b :: r) keys = b :: others r keys := by simp [others, h]
theorem pass_tells (keys : ByteArray) (n : Int) : ∀ (r out : List S45) (found clash done : Bool),
    (passS keys n r out found clash done).1 ++ (if (passS keys n r out found clash done).2.2.2 then [] else [⟨keys, n⟩]) = restS keys n out done r ∧
    (passS keys n r out found clash done).2.1 = (found || decide ((others r keys).length ≠ r.length)) ∧ (passS keys n r out found clash done).2.2.1 = (clash || clashes r keys) ∧ (done = true → (passS keys n r out found clash done).2.2.2 = true)
  | [], out, found, clash, done => by
    refine ⟨?_, by simp [passS, others], by simp [passS, clashes, others], fun h => by simp [passS, h]⟩
    cases done <;> simp [passS, restS, others, insert]
  | b :: r, out, found, clash, done => by
    have hle : (others r keys).length ≤ r.length := List.length_filter_le _ _
    rw [passS]
    by_cases h : b.f0.toList = keys.toList
    · rw [if_pos h]
      obtain ⟨i1, i2, i3, i4⟩ := pass_tells keys n r out true clash done
      refine ⟨?_, ?_, ?_, i4⟩
      · rw [i1]; unfold restS; rw [others_cons_eq h]
      · rw [i2, others_cons_eq h]; simp; omega
      · rw [i3]; unfold clashes; rw [others_cons_eq h]
    · rw [if_neg h]
      have hcl : (clash || pre keys b.f0 || pre b.f0 keys || clashes r keys) = (clash || clashes (b :: r) keys) := by
        unfold clashes
        rw [others_cons_ne h, List.any_cons]
        simp [Bool.or_assoc]
      have hfl : (others (b :: r) keys).length ≠ (b :: r).length ↔ (others r keys).length ≠ r.length := by rw [others_cons_ne h]; simp
      by_cases h2 : (less keys b.f0 && !done) = true
      · rw [if_pos h2]
        obtain ⟨h3, h4⟩ := Bool.and_eq_true_iff.1 h2
        have hd : done = false := by simpa using h4
        subst hd
        obtain ⟨i1, i2, i3, i4⟩ := pass_tells keys n r (out ++ [⟨keys, n⟩] ++ [b]) found (clash || pre keys b.f0 || pre b.f0 keys) true
        refine ⟨?_, by rw [i2, decide_eq_decide.2 hfl], by rw [i3, hcl], fun h => by cases h⟩
        rw [i1]
        unfold restS insert
        have h5 : less b.f0 keys = false := by
          have := less_or (a := keys) (b := b.f0) (fun e => h e.symm)
          rw [h3] at this
          exact this
        rw [others_cons_ne h, List.takeWhile_cons, List.dropWhile_cons, h5]
        simp
      · rw [if_neg h2]
        obtain ⟨i1, i2, i3, i4⟩ := pass_tells keys n r (out ++ [b]) found (clash || pre keys b.f0 || pre b.f0 keys) done
        refine ⟨?_, by rw [i2, decide_eq_decide.2 hfl], by rw [i3, hcl], i4⟩
        rw [i1]
        unfold restS
        rw [others_cons_ne h]
        cases done with
        | true => simp
        | false =>
          have h3 : less keys b.f0 = false := by simpa using h2
          have h5 : less b.f0 keys = true := by
            have := less_or (a := keys) (b := b.f0) (fun e => h e.symm)
            rw [h3] at this
            exact this
          unfold insert
          rw [List.takeWhile_cons, List.dropWhile_cons, h5]
          simp

/-- The program's end of Bind. -/
def endS (l : List S45) (keys : ByteArray) (n : Int) (x : List S45 × Bool × Bool × Bool) : List S45 × Int :=
  let out := x.1 ++ if x.2.2.2 then [] else [⟨keys, n⟩]
  if n = 0 ∧ x.2.1 = false then (l, 8) else if n ≠ 0 ∧ x.2.2.1 = true then (l, 9) else if out.length > 512 then (l, 4) else (out, 0)
theorem end_ev (l : List S45) (keys : ByteArray) (n : Int) (out : List S45) (found clash done : Bool) (hout : out.length ≤ 10000) :
    Ev (fun k => if done = true then keymap_Bind.j2 k l n out found clash else (if out.length < 5864062014805 then keymap_Bind.j2 k l n (out ++ [(⟨keys, n⟩ : S45)]) found clash else none)) (endS l keys n (out, found, clash, done)) := by
  have tail : ∀ o : List S45, Ev (fun k => keymap_Bind.j2 k l n o found clash) (if n = 0 ∧ found = false then (l, 8) else if n ≠ 0 ∧ clash = true then (l, 9) else if o.length > 512 then (l, 4) else (o, 0)) := by
    intro o
    refine Ev.shift 3 fun k => ?_
    rw [keymap_Bind.j2]
    cases found <;> cases clash <;> by_cases hn : n = 0 <;> by_cases ho : o.length > 512 <;> simp [keymap_Bind.j3, keymap_Bind.j4, hn, ho, show ¬ ((o.length : Int) ≤ 512) ↔ o.length > 512 by omega, show ((o.length : Int) > 512) ↔ o.length > 512 by omega] <;> omega
  unfold endS
  cases done
  · exact Ev.congr (fun k => by rw [if_neg (by decide), if_pos (by omega)]; rfl) (tail _)
  · exact Ev.congr (fun k => by rw [if_pos rfl]; simp) (tail _)
theorem pass_ev (l : List S45) (keys : ByteArray) (n : Int) (hl : l.length ≤ 600) : ∀ m i (out : List S45) found clash done, l.length - i = m → i ≤ l.length → out.length ≤ 2 * i →
    Ev (fun k => keymap_Bind.l0 k l keys n out found clash done l (l.length : Int) (i : Int)) (endS l keys n (passS keys n (l.drop i) out found clash done)) := by
  intro m
  induction m with
  | zero =>
    intro i out found clash done hm hi hout
    rw [List.drop_eq_nil_of_le (by omega), passS]
    exact Ev.shiftE 1 (fun k => by rw [keymap_Bind.l0, if_neg (by omega)]) (end_ev l keys n out found clash done (by omega))
  | succ m ih =>
    intro i out found clash done hm hi hout
    have hlt : i < l.length := by omega
    have g1 : (i : Int) < (l.length : Int) := by omega
    have g2 : (0 : Int) ≤ (i : Int) := by omega
    have hw : wrap64 ((i : Int) + 1) = ((i + 1 : Nat) : Int) := by rw [wrap_in] <;> omega
    have hr := rd_nat l i hlt
    rw [List.drop_eq_getElem_cons hlt, passS]
    by_cases h : l[i].f0.toList = keys.toList
    · rw [if_pos h]
      exact Ev.shiftE 1 (fun k => by rw [keymap_Bind.l0, if_pos g1, if_pos g2, if_pos g1, hr, if_pos h, hw]) (ih (i + 1) out true clash done (by omega) (by omega) (by omega))
    · rw [if_neg h]
      have o1 : out.length < 5864062014805 := by omega
      have o2 : (out ++ [(⟨keys, n⟩ : S45)]).length < 5864062014805 := by simp; omega
      have key : ∀ k c, (if (Op.bytesLess keys.toList l[i].f0.toList) = true then (if done = true then (if out.length < 5864062014805 then keymap_Bind.l0 k l keys n (out ++ [(⟨l[i].f0, l[i].f1⟩ : S45)]) found c done l (l.length : Int) (wrap64 ((i : Int) + 1)) else none) else (if out.length < 5864062014805 then ((some (out ++ [(⟨keys, n⟩ : S45)] : List S45)).bind fun y => if y.length < 5864062014805 then keymap_Bind.l0 k l keys n (y ++ [(⟨l[i].f0, l[i].f1⟩ : S45)]) found c true l (l.length : Int) (wrap64 ((i : Int) + 1)) else none) else none)) else (if out.length < 5864062014805 then keymap_Bind.l0 k l keys n (out ++ [(⟨l[i].f0, l[i].f1⟩ : S45)]) found c done l (l.length : Int) (wrap64 ((i : Int) + 1)) else none)) =
          (if less keys l[i].f0 && !done then keymap_Bind.l0 k l keys n (out ++ [⟨keys, n⟩] ++ [l[i]]) found c true l (l.length : Int) ((i + 1 : Nat) : Int) else keymap_Bind.l0 k l keys n (out ++ [l[i]]) found c done l (l.length : Int) ((i + 1 : Nat) : Int)) := by
        intro k c
        have hb : (⟨l[i].f0, l[i].f1⟩ : S45) = l[i] := rfl
        rw [hw, hb, if_pos o1, if_pos o1]
        unfold less
        cases hc : Op.bytesLess keys.toList l[i].f0.toList
        · simp
        · cases done
          · simp only [if_true, Option.bind_some, if_pos o2, Bool.false_eq_true, if_false, Bool.not_false, Bool.and_self]
          · simp
      have step : ∀ k, keymap_Bind.l0 (k + 1) l keys n out found clash done l (l.length : Int) (i : Int) = (if less keys l[i].f0 && !done then keymap_Bind.l0 k l keys n (out ++ [⟨keys, n⟩] ++ [l[i]]) found (clash || pre keys l[i].f0 || pre l[i].f0 keys) true l (l.length : Int) ((i + 1 : Nat) : Int) else keymap_Bind.l0 k l keys n (out ++ [l[i]]) found (clash || pre keys l[i].f0 || pre l[i].f0 keys) done l (l.length : Int) ((i + 1 : Nat) : Int)) := by
        intro k
        rw [keymap_Bind.l0, if_pos g1, if_pos g2, if_pos g1, hr, if_neg h]
        cases clash
        · rw [if_neg (by decide), hasPrefix_tells, Option.bind_some]
          cases hp : pre keys l[i].f0
          · rw [if_neg (by decide), hasPrefix_tells, Option.bind_some, key]
            simp
          · rw [if_pos rfl, key]
            simp
        · rw [if_pos rfl, key]
          simp
      by_cases h2 : (less keys l[i].f0 && !done) = true
      · rw [if_pos h2]
        exact Ev.shiftE 1 (fun k => by rw [step, if_pos h2]) (ih (i + 1) _ _ _ _ (by omega) (by omega) (by simp; omega))
      · rw [if_neg h2]
        exact Ev.shiftE 1 (fun k => by rw [step, if_neg h2]) (ih (i + 1) _ _ _ _ (by omega) (by omega) (by simp; omega))
theorem insert_len (l : List S45) (keys : ByteArray) (n : Int) : (insert l keys n).length = l.length + 1 := by
  have := congrArg List.length (List.takeWhile_append_dropWhile (p := fun b : S45 => less b.f0 keys) (l := l))
  rw [List.length_append] at this
  unfold insert
  simp
  omega
theorem end_tells (l : List S45) (keys : ByteArray) (n : Int) (hl : l.length ≤ 512) : endS l keys n (passS keys n l [] false false (n == 0)) = (if n = 0 then (if (others l keys).length = l.length then (l, 8) else (others l keys, 0)) else if clashes l keys then (l, 9) else if (others l keys).length ≥ 512 then (l, 4) else (insert (others l keys) keys n, 0)) := by
  obtain ⟨i1, i2, i3, i4⟩ := pass_tells keys n l [] false false (n == 0)
  have hle : (others l keys).length ≤ l.length := List.length_filter_le _ _
  unfold endS
  simp only
  rw [i1, i2, i3]
  unfold restS
  rw [List.nil_append, Bool.false_or, Bool.false_or]
  by_cases hn : n = 0
  · subst hn
    simp only [beq_self_eq_true, if_true]
    by_cases ho : (others l keys).length = l.length
    · rw [if_pos ho, if_pos ⟨trivial, by simp [ho]⟩]
    · rw [if_neg ho, if_neg (by simp [ho]), if_neg (by simp), if_neg (by omega)]
  · have hb : (n == 0) = false := beq_eq_false_iff_ne.2 hn
    rw [hb, if_neg hn, if_neg (by simp [hn])]
    simp only [Bool.false_eq_true, if_false]
    by_cases hc : clashes l keys = true
    · rw [if_pos hc, if_pos ⟨hn, hc⟩]
    · rw [if_neg hc, if_neg (fun h => hc h.2), insert_len]
      by_cases h5 : (others l keys).length ≥ 512
      · rw [if_pos (by omega), if_pos h5]
      · rw [if_neg (by omega), if_neg h5]
theorem bind_tells (l : List S45) (keys : ByteArray) (n : Int) : Ev (fun k => keymap_Bind.f k l keys n) (bindS l keys n) := by
  unfold keymap_Bind.f bindS
  refine Ev.bind (valid_tells l) ?_
  by_cases hv : validAll l = 0
  · have hl : l.length ≤ 512 := by
      unfold validAll at hv
      by_cases h : l.length > 512
      · rw [if_pos h] at hv; omega
      · omega
    rw [if_neg (fun h => h hv)]
    refine Ev.congr (fun k => if_pos hv) ?_
    by_cases h1 : keys.toList = []
    · rw [if_pos h1]; exact Ev.congr (fun k => if_pos h1) (Ev.now _)
    rw [if_neg h1]
    refine Ev.congr (fun k => if_neg h1) ?_
    by_cases h2 : keys.size > 16
    · rw [if_pos h2]; exact Ev.congr (fun k => if_pos (by omega)) (Ev.now _)
    rw [if_neg h2]
    refine Ev.congr (fun k => if_neg (by omega)) ?_
    have body : Ev (fun k => keymap_Bind.j0 k l keys n) (endS l keys n (passS keys n l [] false false (n == 0))) := by
      refine Ev.shiftE 1 (fun k => by rw [keymap_Bind.j0]) ?_
      have := pass_ev l keys n (by omega) _ 0 [] false false (n == 0) rfl (by omega) (by simp)
      rw [List.drop_zero] at this
      exact this
    rw [end_tells l keys n hl] at body
    by_cases hn : n = 0
    · rw [if_neg (fun h => h.1 hn)]
      exact Ev.congr (fun k => if_pos hn) body
    · refine Ev.congr (fun k => if_neg hn) ?_
      rw [action_tells]
      by_cases ha : 1 ≤ n ∧ n ≤ 28
      · rw [if_neg (fun h => h.2 ha), decide_eq_true ha]
        exact body
      · rw [if_pos ⟨hn, ha⟩, decide_eq_false ha]
        exact Ev.now _
  · rw [if_pos hv]
    exact Ev.congr (fun k => if_neg hv) (Ev.now _)

theorem refrest_ev (l : List S45) (keys : ByteArray) (n : Int) (hl : l.length ≤ 600) {r : List S45 × Int} (hend : Ev (fun k => if n = 0 then jobshellref45_Bind.j2 k l keys n (others l keys) (clashes l keys) ((((others l keys).length : Nat) : Int) == (l.length : Int)) else jobshellref45_Bind.j2 k l keys n (others l keys) (clashes l keys) false) r) :
    ∀ m i, l.length - i = m → i ≤ l.length → Ev (fun k => jobshellref45_Bind.l0 k l keys n (others (l.take i) keys) (clashes (l.take i) keys) (i : Int)) r := by
  intro m
  induction m with
  | zero =>
    intro i hm hi
    rw [List.take_of_length_le (by omega)]
    exact Ev.shiftE 1 (fun k => by rw [jobshellref45_Bind.l0, if_neg (by omega)]) hend
  | succ m ih =>
    intro i hm hi
    have hlt : i < l.length := by omega
    have g1 : (i : Int) < (l.length : Int) := by omega
    have g2 : (0 : Int) ≤ (i : Int) := by omega
    have hw : wrap64 ((i : Int) + 1) = ((i + 1 : Nat) : Int) := by rw [wrap_in] <;> omega
    have hr := rd_nat l i hlt
    have ht : l.take (i + 1) = l.take i ++ [l[i]] := by rw [List.take_succ_eq_append_getElem hlt]
    have ih' := ih (i + 1) (by omega) (by omega)
    have hlen : (others (l.take i) keys).length < 5864062014805 := by
      have : (others (l.take i) keys).length ≤ (l.take i).length := List.length_filter_le _ _
      rw [List.length_take] at this
      omega
    refine Ev.shiftE 1 (fun k => ?_) ih'
    rw [jobshellref45_Bind.l0, if_pos g1, if_pos g2, hr, hw]
    by_cases h : l[i].f0.toList = keys.toList
    · rw [if_pos h]
      have e1 : others (l.take (i + 1)) keys = others (l.take i) keys := by rw [ht, others, List.filter_append]; simp [others, h]
      rw [show clashes (l.take (i + 1)) keys = clashes (l.take i) keys by unfold clashes; rw [e1], e1]
    · rw [if_neg h, if_pos hlen, Option.bind_some]
      have e1 : others (l.take (i + 1)) keys = others (l.take i) keys ++ [l[i]] := by rw [ht, others, List.filter_append]; simp [others, h]
      have e2 : clashes (l.take (i + 1)) keys = (clashes (l.take i) keys || (pre keys l[i].f0 || pre l[i].f0 keys)) := by unfold clashes; rw [e1, List.any_append]; simp
      have hb : (⟨l[i].f0, l[i].f1⟩ : S45) = l[i] := rfl
      rw [e1, e2, hb]
      cases clashes (l.take i) keys
      · rw [if_neg (by decide), begins_tells, Option.bind_some]
        cases pre keys l[i].f0
        · rw [if_neg (by decide), begins_tells, Option.bind_some]; simp
        · rw [if_pos rfl]; simp
      · rw [if_pos rfl]; simp
theorem refins_ev (l0 l : List S45) (keys : ByteArray) (n : Int) (hl : l.length ≤ 600) :
    ∀ m j (acc : List S45), l.length - j = m → j ≤ l.length → acc.length ≤ j → Ev (fun k => jobshellref45_Bind.l1 k keys n l acc (j : Int)) (acc ++ insert (l.drop j) keys n, 0) := by
  intro m
  induction m with
  | zero =>
    intro j acc hm hj hacc
    have hd : l.drop j = [] := List.drop_eq_nil_of_le (by omega)
    refine Ev.shift 1 fun k => ?_
    have hlen : acc.length < 5864062014805 := by omega
    rw [jobshellref45_Bind.l1, if_neg (by omega), if_pos hlen, Option.bind_some, if_pos (by omega), if_pos (by omega), Option.bind_some, Int.toNat_natCast, hd, if_pos (by simp; omega)]
    simp [insert]
  | succ m ih =>
    intro j acc hm hj hacc
    have hlt : j < l.length := by omega
    have g1 : (j : Int) < (l.length : Int) := by omega
    have g2 : (0 : Int) ≤ (j : Int) := by omega
    have hw : wrap64 ((j : Int) + 1) = ((j + 1 : Nat) : Int) := by rw [wrap_in] <;> omega
    have hr := rd_nat l j hlt
    have hlen : acc.length < 5864062014805 := by omega
    have hb : (⟨l[j].f0, l[j].f1⟩ : S45) = l[j] := rfl
    rw [List.drop_eq_getElem_cons hlt]
    by_cases h : less l[j].f0 keys = true
    · have ih' := ih (j + 1) (acc ++ [l[j]]) (by omega) (by omega) (by simp; omega)
      have e : acc ++ insert (l[j] :: l.drop (j + 1)) keys n = acc ++ [l[j]] ++ insert (l.drop (j + 1)) keys n := by
        unfold insert
        rw [List.takeWhile_cons, List.dropWhile_cons, h]
        simp
      rw [e]
      refine Ev.shiftE 1 (fun k => ?_) ih'
      rw [jobshellref45_Bind.l1, if_pos g1, if_pos g2, hr, if_pos (show Op.bytesLess l[j].f0.toList keys.toList = true from h), if_pos hlen, hw]
    · have hf : less l[j].f0 keys = false := by simpa using h
      have e : insert (l[j] :: l.drop (j + 1)) keys n = ⟨keys, n⟩ :: l.drop j := by
        unfold insert
        rw [List.takeWhile_cons, List.dropWhile_cons, hf, ← List.drop_eq_getElem_cons hlt]
        simp
      rw [e]
      refine Ev.shift 1 fun k => ?_
      have hd : (l.drop j).length ≤ 600 := by simp; omega
      rw [jobshellref45_Bind.l1, if_pos g1, if_pos g2, hr, if_neg (show ¬ Op.bytesLess l[j].f0.toList keys.toList = true from h), if_pos hlen, Option.bind_some, if_pos (by omega), Option.bind_some, Int.toNat_natCast, if_pos (by simp at *; omega)]
      simp
theorem refbind_tells (l : List S45) (keys : ByteArray) (n : Int) : Ev (fun k => jobshellref45_Bind.f k l keys n) (bindS l keys n) := by
  unfold jobshellref45_Bind.f bindS
  refine Ev.bind (refvalid_tells l) ?_
  by_cases hv : validAll l = 0
  · have hl : l.length ≤ 512 := by
      unfold validAll at hv
      by_cases h : l.length > 512
      · rw [if_pos h] at hv; omega
      · omega
    have hle : (others l keys).length ≤ l.length := List.length_filter_le _ _
    rw [if_neg (fun h => h hv)]
    refine Ev.congr (fun k => if_pos hv) ?_
    by_cases h1 : keys.toList = []
    · rw [if_pos h1]; exact Ev.congr (fun k => if_pos h1) (Ev.now _)
    rw [if_neg h1]
    refine Ev.congr (fun k => if_neg h1) ?_
    by_cases h2 : keys.size > 16
    · rw [if_pos h2]; exact Ev.congr (fun k => if_pos (by omega)) (Ev.now _)
    rw [if_neg h2]
    refine Ev.congr (fun k => if_neg (by omega)) ?_
    have body : Ev (fun k => jobshellref45_Bind.j0 k l keys n false) (if n = 0 then (if (others l keys).length = l.length then (l, 8) else (others l keys, 0)) else if clashes l keys then (l, 9) else if (others l keys).length ≥ 512 then (l, 4) else (insert (others l keys) keys n, 0)) := by
      refine Ev.shiftE 1 (fun k => by rw [jobshellref45_Bind.j0, if_neg (by decide)]) ?_
      have := refrest_ev l keys n (by omega) (r := (if n = 0 then (if (others l keys).length = l.length then (l, 8) else (others l keys, 0)) else if clashes l keys then (l, 9) else if (others l keys).length ≥ 512 then (l, 4) else (insert (others l keys) keys n, 0))) ?_ _ 0 rfl (by omega)
      · rw [List.take_zero] at this
        exact this
      · by_cases hn : n = 0
        · rw [if_pos hn]
          refine Ev.congr (fun k => if_pos hn) ?_
          by_cases ho : (others l keys).length = l.length
          · rw [if_pos ho]
            exact Ev.shift 1 fun k => by rw [jobshellref45_Bind.j2, if_pos (by rw [ho]; simp)]
          · rw [if_neg ho]
            exact Ev.shift 1 fun k => by rw [jobshellref45_Bind.j2, if_neg (by simp; omega), if_pos hn]
        · rw [if_neg hn]
          refine Ev.congr (fun k => if_neg hn) ?_
          cases hc : clashes l keys
          · rw [if_neg (by decide)]
            by_cases h5 : (others l keys).length ≥ 512
            · rw [if_pos h5]
              exact Ev.shift 1 fun k => by rw [jobshellref45_Bind.j2, if_neg (by decide), if_neg hn, if_neg (by decide), if_pos (by omega)]
            · rw [if_neg h5]
              have hi := refins_ev l (others l keys) keys n (by omega) _ 0 [] rfl (by omega) (by simp)
              rw [List.drop_zero, List.nil_append] at hi
              exact Ev.shiftE 1 (fun k => by rw [jobshellref45_Bind.j2, if_neg (by decide), if_neg hn, if_neg (by decide), if_neg (by omega)]; rfl) hi
          · rw [if_pos rfl]
            exact Ev.shift 1 fun k => by rw [jobshellref45_Bind.j2, if_neg (by decide), if_neg hn, if_pos rfl]
    by_cases hn : n = 0
    · rw [if_neg (fun h => h.1 hn)]
      exact Ev.congr (fun k => if_pos hn) body
    · refine Ev.congr (fun k => if_neg hn) ?_
      rw [refaction_tells]
      by_cases ha : 1 ≤ n ∧ n ≤ 28
      · rw [if_neg (fun h => h.2 ha), decide_eq_true ha]
        exact body
      · rw [if_pos ⟨hn, ha⟩, decide_eq_false ha]
        exact Ev.shift 1 fun k => by rw [Option.bind_some, jobshellref45_Bind.j0]; exact if_pos rfl
  · rw [if_pos hv]
    exact Ev.congr (fun k => if_neg hv) (Ev.now _)

theorem find_none (keys : ByteArray) : ∀ (l : List S45) (found : Bool) (n more : Int), (∀ b ∈ l, b.f0.toList ≠ keys.toList) → (findS keys l found n more).1 = n
  | [], found, n, more, _ => rfl
  | b :: r, found, n, more, h => by
    have hb := h b List.mem_cons_self
    rw [findS, decide_eq_false hb, Bool.false_and]
    simp only [Bool.false_eq_true, if_false]
    exact find_none keys r _ _ _ (fun x hx => h x (List.mem_cons_of_mem _ hx))
theorem find_more (keys : ByteArray) : ∀ (l : List S45) (found : Bool) (n more : Int), (∀ b ∈ l, b.f0.toList ≠ keys.toList → pre keys b.f0 = false) → (findS keys l found n more).2 = more
  | [], found, n, more, _ => rfl
  | b :: r, found, n, more, h => by
    have hb := h b List.mem_cons_self
    rw [findS]
    have e : (decide (b.f0.size > keys.size) && pre keys b.f0) = false := by
      by_cases hk : b.f0.toList = keys.toList
      · have : b.f0 = keys := list_inj.1 hk
        rw [this]
        simp
      · rw [hb hk, Bool.and_false]
    rw [e]
    simp only [Bool.false_eq_true, if_false]
    exact find_more keys r _ _ _ (fun x hx => h x (List.mem_cons_of_mem _ hx))
theorem find_found (keys : ByteArray) : ∀ (l : List S45) (n more : Int), (findS keys l true n more).1 = n
  | [], n, more => rfl
  | b :: r, n, more => by
    rw [findS]
    simp only [Bool.true_or, Bool.not_true, Bool.and_false, Bool.false_eq_true, if_false]
    exact find_found keys r _ _
theorem find_mid (keys : ByteArray) (n : Int) : ∀ (l1 l2 : List S45) (more : Int), (∀ b ∈ l1, b.f0.toList ≠ keys.toList) → (findS keys (l1 ++ ⟨keys, n⟩ :: l2) false 0 more).1 = n
  | [], l2, more, _ => by
    rw [List.nil_append, findS]
    simp only [decide_true, Bool.false_or, Bool.not_false, Bool.and_self, if_true]
    exact find_found keys l2 _ _
  | b :: r, l2, more, h => by
    have hb := h b List.mem_cons_self
    rw [List.cons_append, findS, decide_eq_false hb]
    simp only [Bool.false_or, Bool.false_and, Bool.false_eq_true, if_false]
    exact find_mid keys n r l2 _ (fun x hx => h x (List.mem_cons_of_mem _ hx))
theorem others_ne {l : List S45} {keys : ByteArray} {b : S45} (h : b ∈ others l keys) : b ∈ l ∧ b.f0.toList ≠ keys.toList := by
  have := List.mem_filter.1 h
  exact ⟨this.1, by simpa using this.2⟩
theorem good_others {l : List S45} {keys : ByteArray} (h : Good l) : Good (others l keys) :=
  ⟨fun b hb => h.1 b (others_ne hb).1, h.2.sublist List.filter_sublist⟩
theorem drop_first (p : S45 → Bool) : ∀ (l : List S45) (c : S45) (r : List S45), l.dropWhile p = c :: r → p c = false
  | [], c, r, h => by simp at h
  | b :: l, c, r, h => by
    rw [List.dropWhile_cons] at h
    cases hb : p b
    · rw [hb] at h; simp at h; rw [← h.1]; exact hb
    · rw [hb] at h; simp at h; exact drop_first p l c r h
theorem good_insert {l : List S45} {keys : ByteArray} {n : Int} (h : Good l) (hne : ∀ b ∈ l, b.f0.toList ≠ keys.toList) (hc : ∀ b ∈ l, pre keys b.f0 = false ∧ pre b.f0 keys = false) (hk : okB ⟨keys, n⟩) : Good (insert l keys n) := by
  have hsub1 : (l.takeWhile fun b => less b.f0 keys).Sublist l := List.takeWhile_sublist _
  have hsub2 : (l.dropWhile fun b => less b.f0 keys).Sublist l := List.dropWhile_sublist _
  have hpw := h.2
  rw [← List.takeWhile_append_dropWhile (p := fun b : S45 => less b.f0 keys) (l := l), List.pairwise_append] at hpw
  obtain ⟨p1, p2, p3⟩ := hpw
  have below : ∀ b ∈ l.takeWhile (fun b => less b.f0 keys), Rel b ⟨keys, n⟩ := by
    intro b hb
    have h9 := List.all_eq_true.1 (List.all_takeWhile (l := l) (p := fun b : S45 => less b.f0 keys)) b hb
    exact ⟨h9, (hc b (hsub1.subset hb)).2⟩
  have above : ∀ b ∈ l.dropWhile (fun b => less b.f0 keys), Rel ⟨keys, n⟩ b := by
    intro b hb
    have hm := hsub2.subset hb
    refine ⟨?_, (hc b hm).1⟩
    rcases hd : l.dropWhile (fun b => less b.f0 keys) with _ | ⟨c, r⟩
    · rw [hd] at hb; simp at hb
    · have hcf := drop_first _ l c r hd
      have hcm : c ∈ l := hsub2.subset (by rw [hd]; exact List.mem_cons_self)
      have hk1 : less keys c.f0 = true := by
        have := less_or (hne c hcm)
        rw [hcf] at this
        exact this
      rw [hd] at hb p2
      rcases List.mem_cons.1 hb with rfl | hb
      · exact hk1
      · exact bless_trans hk1 ((List.pairwise_cons.1 p2).1 b hb).1
  refine ⟨?_, ?_⟩
  · intro b hb
    unfold insert at hb
    rcases List.mem_append.1 hb with hb | hb
    · exact h.1 b (hsub1.subset hb)
    · rcases List.mem_cons.1 hb with rfl | hb
      · exact hk
      · exact h.1 b (hsub2.subset hb)
  · unfold insert
    rw [List.pairwise_append]
    refine ⟨p1, List.pairwise_cons.2 ⟨above, p2⟩, ?_⟩
    intro a ha b hb
    rcases List.mem_cons.1 hb with rfl | hb
    · exact below a ha
    · exact p3 a ha b hb
/-- Where Bind says 'good': what comes back is valid, finds the action, and asks for no more keys. -/
theorem bind_good (l : List S45) (keys : ByteArray) (n : Int) (h : (bindS l keys n).2 = 0) :
    (bindS l keys n).1.length ≤ 512 ∧ validAll (bindS l keys n).1 = 0 ∧ (findS keys (bindS l keys n).1 false 0 0).1 = n ∧ ((findS keys (bindS l keys n).1 false 0 0).2 = 0 ∨ n = 0) := by
  unfold bindS at h ⊢
  by_cases hv : validAll l = 0
  · have hl : l.length ≤ 512 := by
      unfold validAll at hv
      by_cases h : l.length > 512
      · rw [if_pos h] at hv; omega
      · omega
    have hg : Good l := good_of l (by unfold validAll at hv; rwa [if_neg (by omega)] at hv)
    have hle : (others l keys).length ≤ l.length := List.length_filter_le _ _
    rw [if_neg (fun h => h hv)] at h ⊢
    by_cases h1 : keys.toList = []
    · rw [if_pos h1] at h; simp at h
    rw [if_neg h1] at h ⊢
    by_cases h2 : keys.size > 16
    · rw [if_pos h2] at h; simp at h
    rw [if_neg h2] at h ⊢
    by_cases h3 : n ≠ 0 ∧ ¬ (1 ≤ n ∧ n ≤ 28)
    · rw [if_pos h3] at h; simp at h
    rw [if_neg h3] at h ⊢
    by_cases hn : n = 0
    · rw [if_pos hn] at h ⊢
      by_cases ho : (others l keys).length = l.length
      · rw [if_pos ho] at h; simp at h
      rw [if_neg ho]
      refine ⟨by simp; omega, ?_, ?_, .inr hn⟩
      · unfold validAll
        rw [if_neg (by simp; omega)]
        exact of_good _ (good_others hg)
      · rw [hn]
        exact find_none keys _ _ _ _ (fun b hb => (others_ne hb).2)
    · rw [if_neg hn] at h ⊢
      have ha : 1 ≤ n ∧ n ≤ 28 := by
        by_cases ha : 1 ≤ n ∧ n ≤ 28
        · exact ha
        · exact absurd ⟨hn, ha⟩ h3
      by_cases hc : clashes l keys = true
      · rw [if_pos hc] at h; simp at h
      rw [if_neg hc] at h ⊢
      by_cases h5 : (others l keys).length ≥ 512
      · rw [if_pos h5] at h; simp at h
      rw [if_neg h5]
      have hcl : ∀ b ∈ others l keys, pre keys b.f0 = false ∧ pre b.f0 keys = false := by
        intro b hb
        have hf : clashes l keys = false := by simpa using hc
        have := List.any_eq_false.1 hf b hb
        simpa using this
      have hne : ∀ b ∈ others l keys, b.f0.toList ≠ keys.toList := fun b hb => (others_ne hb).2
      have hgi : Good (insert (others l keys) keys n) := good_insert (good_others hg) hne hcl ⟨h1, by simp; omega, ha.1, ha.2⟩
      have hil := insert_len (others l keys) keys n
      refine ⟨by simp only; omega, ?_, ?_, .inl ?_⟩
      · unfold validAll
        rw [if_neg (by simp only; omega)]
        exact of_good _ hgi
      · unfold insert
        exact find_mid keys n _ _ 0 (fun b hb => hne b ((List.takeWhile_sublist _).subset hb))
      · refine find_more keys _ _ _ _ (fun b hb hbne => ?_)
        unfold insert at hb
        rcases List.mem_append.1 hb with hb | hb
        · exact (hcl b ((List.takeWhile_sublist _).subset hb)).1
        · rcases List.mem_cons.1 hb with rfl | hb
          · exact absurd rfl hbne
          · exact (hcl b ((List.dropWhile_sublist _).subset hb)).1
  · rw [if_pos hv] at h
    exact absurd h hv
theorem bind_len (l : List S45) (keys : ByteArray) (n : Int) : (bindS l keys n).1.length ≤ l.length + 1 := by
  have hle : (others l keys).length ≤ l.length := List.length_filter_le _ _
  have hil := insert_len (others l keys) keys n
  unfold bindS
  repeat' split
  all_goals (simp only; omega)

theorem KeymapBinds (l : List S45) (keys : ByteArray) (n : Int) (hs : ∀ b ∈ l, b.f0.size ≤ 140737488351232) : ∃ k, jobshelllaw45_KeymapBinds.f k l keys n = some true := by
  refine Ev.rounds ?_
  unfold jobshelllaw45_KeymapBinds.f
  obtain ⟨b, hb, hl⟩ := few_tells l hs
  refine Ev.bind hb ?_
  have out : Ev (fun k => jobshelllaw45_KeymapBinds.j0 k l keys n true) true := Ev.shiftE 1 (fun k => by rw [jobshelllaw45_KeymapBinds.j0, if_pos rfl]) (Ev.bind awake_ev (Ev.now _))
  cases b
  · exact Ev.congr (fun k => if_neg (by decide)) out
  · refine Ev.congr (fun k => if_pos rfl) ?_
    have hl := hl rfl
    by_cases hk : (keys.size : Int) > 100
    · rw [decide_eq_true hk]; exact out
    · rw [decide_eq_false hk]
      have hbl := bind_len l keys n
      refine Ev.shiftE 1 (fun k => by rw [jobshelllaw45_KeymapBinds.j0, if_neg (by decide)]) (Ev.bind (bind_tells l keys n) (Ev.bind (refbind_tells l keys n) (Ev.bind (same_tells (bindS l keys n).1 (by omega)) (Ev.congr (fun k => if_pos rfl) ?_))))
      rw [show ((bindS l keys n).2 != (bindS l keys n).2) = false by simp]
      by_cases h0 : (bindS l keys n).2 = 0
      · obtain ⟨_, g2, g3, g4⟩ := bind_good l keys n h0
        refine Ev.shiftE 1 (fun k => by rw [jobshelllaw45_KeymapBinds.j1, if_neg (by decide), if_pos h0]) (Ev.bind (find_tells _ keys (by omega)) (Ev.congr (fun k => if_pos g3) ?_))
        have fin_ : Ev (fun k => (keymap_Valid.f k (bindS l keys n).1).bind fun t => if t = 0 then (jobshelllaw45_awake.f k).bind fun t => some t else some false) true := by
          refine Ev.bind (valid_tells _) (Ev.congr (fun k => if_pos g2) (Ev.bind awake_ev (Ev.now _)))
        by_cases hm : (findS keys (bindS l keys n).1 false 0 0).2 = 0
        · exact Ev.congr (fun k => if_pos hm) fin_
        · refine Ev.congr (fun k => if_neg hm) (Ev.congr (fun k => if_pos ?_) fin_)
          rcases g4 with g4 | g4
          · exact absurd g4 hm
          · exact g4
      · exact Ev.shiftE 1 (fun k => by rw [jobshelllaw45_KeymapBinds.j1, if_neg (by decide), if_neg h0]) (Ev.bind awake_ev (Ev.now _))
end Go.Proofs.YtklcndfnboieoaaDoor.K
