/- Texts of this claim, joined: Open. -/
import Derived.Test.YtlbbjdggebgabaaRDM0
import Derived.OpenShut
import Derived.Lib.LaidTab
import Derived.SizedLaws
import Derived.ChangeArms
section
/- What an argument reads as, turned into the printed words' kinds: whole numbers, bools, strings, structs, slices of these, however nested; and that each string and slice in it lies within the form's reach. -/
namespace Go.Proofs.Ytlbbjdggebgabaa.Op
set_option linter.unusedVariables false
open Go Go.RowKit Go.ChangeShapes Go.Proofs.YtlbbjdggebgabaaW.PrintWords

/-- A value of type t that reads as data reads by the kind d, and S holds of what it holds. -/
def Opens {α : Type} (P : Program) (t : TypeId) (d : Kd α) (S : α → Prop) : Prop :=
  ∀ {H : Type} (enc : TypeId × Value → H) (w : World) (base : Nat) (sp : Nat → Bool) (held : Bool) (fuel : Nat) (cs : List Value) (x : DataW H) (ps : List MemPlace),
    DataW.trod enc P w base sp held fuel t cs = some (x, ps) → (x.weights P t).all (· ≤ reachBytes) = true → ∃ a, d.K w a cs ∧ S a

theorem opens_int {P : Program} {t : TypeId} {k : IntKind} (ht : P.underlying t = some (.int k)) : Opens P t (Kd.int k) (fun n => (Lit.int k n).wf = true) := by
  intro H enc w base sp held fuel cs x ps h _
  obtain ⟨n, rfl, _, hw⟩ := DataW.trod_int ht h
  exact ⟨n, rfl, hw⟩
theorem opens_string {P : Program} {t : TypeId} (ht : P.underlying t = some .string) : Opens P t Kd.string (fun s => s.size ≤ 140737488351232) := by
  intro H enc w base sp held fuel cs x ps h hw
  obtain ⟨s, rfl, he, _⟩ := DataW.trod_string ht h
  obtain ⟨rfl, _⟩ := Prod.mk.inj he
  refine ⟨s, rfl, ?_⟩
  simp only [DataW.weights, List.all_cons, List.all_nil, Bool.and_true] at hw
  have h1 := of_decide_eq_true hw
  rw [Array.length_toList] at h1
  exact h1

/-- The fields of a struct from one on, from a place on. -/
def OpensFs {α : Type} (P : Program) (off : Nat) (fs : List Field) (d : Kd α) (S : α → Prop) : Prop :=
  ∀ {H : Type} (enc : TypeId × Value → H) (w : World) (base : Nat) (sp : Nat → Bool) (held : Bool) (fuel : Nat) (cs : List Value) (xs : List (DataW H × List MemPlace)),
    cs.length = off + d.sz → xs.length = fs.length → (∀ (i : Nat) (f : Field), fs[i]? = some f → DataW.trod enc P w base sp held fuel f.type ((cs.drop f.offset).take (P.cellsOf f.type)) = xs[i]?) →
    (DataW.weightsEach P (fs.map (·.type)) (xs.map (·.1))).all (· ≤ reachBytes) = true → ∃ a, d.K w a (cs.drop off) ∧ S a

theorem opensFs_one {α : Type} {P : Program} {off : Nat} {f : Field} {d : Kd α} {S : α → Prop} (ho : f.offset = off) (hz : P.cellsOf f.type = d.sz) (h : Opens P f.type d S) : OpensFs P off [f] d S := by
  intro H enc w base sp held fuel cs xs hl hx hf hw
  match xs, hx with
  | [x], _ =>
    have h0 := hf 0 f rfl
    rw [ho, hz] at h0
    have e : (cs.drop off).take d.sz = cs.drop off := List.take_of_length_le (by rw [List.length_drop]; omega)
    rw [e] at h0
    have h1 : DataW.trod enc P w base sp held fuel f.type (cs.drop off) = some (x.1, x.2) := h0
    refine h enc w base sp held fuel _ _ _ h1 ?_
    simpa [DataW.weightsEach] using hw
theorem opensFs_cons {α β : Type} {P : Program} {off : Nat} {f : Field} {fs : List Field} {d0 : Kd α} {d : Kd β} {S0 : α → Prop} {S : β → Prop} (ho : f.offset = off) (hz : P.cellsOf f.type = d0.sz) (h0 : Opens P f.type d0 S0) (h : OpensFs P (off + d0.sz) fs d S) :
    OpensFs P off (f :: fs) (Kd.pair d0 d) (fun x => S0 x.1 ∧ S x.2) := by
  intro H enc w base sp held fuel cs xs hl hx hf hw
  match xs, hx with
  | x :: xs, hx =>
    have hl' : cs.length = off + (d0.sz + d.sz) := hl
    have g0 := hf 0 f rfl
    rw [ho, hz] at g0
    have g1 : DataW.trod enc P w base sp held fuel f.type ((cs.drop off).take d0.sz) = some (x.1, x.2) := g0
    rw [List.map_cons, List.map_cons, DataW.weightsEach, List.all_append, Bool.and_eq_true] at hw
    obtain ⟨a, ka, sa⟩ := h0 enc w base sp held fuel _ _ _ g1 hw.1
    obtain ⟨b, kb, sb⟩ := h enc w base sp held fuel cs xs (by omega) (by simpa using hx) (fun i g hg => hf (i + 1) g hg) hw.2
    refine ⟨(a, b), ⟨_, _, ?_, ka, kb⟩, sa, sb⟩
    rw [← List.drop_drop, List.take_append_drop]
theorem opens_struct {α β : Type} {P : Program} {t : TypeId} {fs : Array Field} {d : Kd α} {S : α → Prop} (ht : P.underlying t = some (.struct fs)) (hz : P.cellsOf t = d.sz) (f : β → α) (g : α → β) (hg : ∀ a, f (g a) = a) (h : OpensFs P 0 fs.toList d S) :
    Opens P t (Kd.iso d f) (fun x => S (f x)) := by
  intro H enc w base sp held fuel cs x ps hx hw
  obtain ⟨xs, n, rfl, he, hl, hlen, hf⟩ := DataW.trod_struct ht hx
  obtain ⟨rfl, _⟩ := Prod.mk.inj he
  simp only [DataW.weights, ht] at hw
  obtain ⟨a, ka, sa⟩ := h enc w base sp held n cs xs (by omega) (by simpa using hlen) (fun i f hif => hf i f (by simpa using hif)) hw
  refine ⟨g a, ?_, ?_⟩
  · show d.K w (f (g a)) cs
    rw [hg]
    simpa using ka
  · show S (f (g a))
    rw [hg]
    exact sa

theorem all_each {H : Type} {P : Program} {e : TypeId} {q : Nat → Bool} : ∀ {l : List (DataW H)}, (DataW.weightsAll P e l).all q = true → ∀ (i : Nat) x, l[i]? = some x → (x.weights P e).all q = true
  | [], _, i, x, h => by simp at h
  | d :: l, hw, 0, x, h => by
    simp only [List.getElem?_cons_zero, Option.some.injEq] at h
    subst h
    rw [DataW.weightsAll, List.all_append, Bool.and_eq_true] at hw
    exact hw.1
  | d :: l, hw, i + 1, x, h => by
    rw [DataW.weightsAll, List.all_append, Bool.and_eq_true] at hw
    exact all_each hw.2 i x (by simpa using h)
theorem cells_at {w : World} {base : Nat} {a : Addr} {n : Nat} {cs : List Value} (h : w.cells? base a n = some cs) : cs.length = n ∧ ∀ i u, cs[i]? = some u → w.cell? (a.add i) = some u := by
  unfold World.cells? at h
  split at h
  · refine ⟨by simpa using Lib.mapM_length h, fun i u hu => ?_⟩
    have hl := Lib.mapM_length h
    have hi : i < n := by
      have := (List.getElem?_eq_some_iff.1 hu).1
      rw [List.length_range] at hl
      omega
    obtain ⟨b, hb, hf⟩ := Lib.mapM_at h i i (by simp [hi])
    rw [hu] at hb
    cases hb
    exact hf
  · cases h
theorem addr_add_add (a : Addr) (i j : Nat) : (a.add i).add j = a.add (i + j) := by
  unfold Addr.add
  by_cases hi : i = 0 <;> by_cases hj : j = 0 <;> simp [hi, hj, Nat.add_assoc]
/-- A list chosen element by element. -/
theorem choose_list {α : Type} {p : Nat → α → Prop} : ∀ n, (∀ i, i < n → ∃ a, p i a) → ∃ l : List α, l.length = n ∧ ∀ i a, l[i]? = some a → p i a
  | 0, _ => ⟨[], rfl, fun i a h => by simp at h⟩
  | n + 1, h => by
    obtain ⟨l, hl, hp⟩ := choose_list n (fun i hi => h i (by omega))
    obtain ⟨a, ha⟩ := h n (by omega)
    refine ⟨l ++ [a], by simp [hl], fun i b hb => ?_⟩
    rcases Nat.lt_or_ge i n with hi | hi
    · rw [List.getElem?_append_left (by omega)] at hb
      exact hp i b hb
    · rw [List.getElem?_append_right (by omega)] at hb
      have h1 := (List.getElem?_eq_some_iff.1 hb).1
      simp only [List.length_cons, List.length_nil] at h1
      obtain rfl : i = n := by omega
      rw [hl, Nat.sub_self] at hb
      cases hb
      exact ha
/-- What holds of a slice's list. -/
def SL {α : Type} (B : Nat) (S : α → Prop) (l : List α) : Prop := l.length ≤ maxLen ∧ l.length * B ≤ 140737488351232 ∧ ∀ x ∈ l, S x
theorem opens_slice {α : Type} {P : Program} {t e : TypeId} {d : Kd α} {S : α → Prop} {B : Nat} (ht : P.underlying t = some (.slice e)) (hz : P.cellsOf e = d.sz) (hB : P.bytesOf e = B) (h : Opens P e d S) :
    Opens P t (Kd.slice e d) (SL B S) := by
  intro H enc w base sp held fuel cs x ps hx hw
  rcases DataW.trod_slice ht hx with ⟨rfl, _⟩ | ⟨a, len, cap, elems, rest, n, _, rfl, he, hb, hl, hm, hlen, hel, hsp, hns⟩
  · exact ⟨[], ⟨none, 0, rfl, Nat.le_refl _, rfl, by simp, fun h0 => absurd h0 (by simp)⟩, by simp [SL]⟩
  · obtain ⟨rfl, _⟩ := Prod.mk.inj he
    simp only [DataW.weights, ht, List.all_cons, List.all_append, Bool.and_eq_true, decide_eq_true_eq, List.length_map] at hw
    obtain ⟨hw0, hw1, _⟩ := hw
    have each : ∀ i, i < len → ∃ a' : α, ∃ c, c.length = d.sz ∧ d.K w a' c ∧ S a' ∧ ∀ j u, c[j]? = some u → w.cell? (a.add (i * d.sz + j)) = some u := by
      intro i hi
      have h1 := hel i hi
      have hlt : i < elems.length := by omega
      rw [List.getElem?_eq_getElem hlt] at h1
      obtain ⟨c, hc, hy⟩ := Option.bind_eq_some_iff.1 h1
      obtain ⟨hcl, hcc⟩ := cells_at hc
      rw [hz] at hcl hcc
      have hy' : DataW.trod enc P w base sp held n e c = some (elems[i].1, elems[i].2) := hy
      obtain ⟨a', ka, sa⟩ := h enc w base sp held n c _ _ hy' (all_each hw1 i _ (by rw [List.getElem?_map, List.getElem?_eq_getElem hlt]; rfl))
      exact ⟨a', c, hcl, ka, sa, fun j u hu => by have := hcc j u hu; rwa [addr_add_add] at this⟩
    obtain ⟨l, hll, hp⟩ := choose_list len each
    have hlm : len ≤ 9223372036854775807 := by unfold maxLen at hm; omega
    refine ⟨l, ⟨some a, cap, by rw [hll], by omega, hll ▸ rfl, by rw [hll]; exact hlm, fun _ => ⟨a, rfl, fun j p hj => ?_⟩⟩, ?_, ?_, ?_⟩
    · obtain ⟨c, h1, h2, _, h4⟩ := hp j p hj
      exact ⟨c, h1, h2, h4⟩
    · unfold maxLen at *; omega
    · rw [hll, ← hB]
      unfold reachBytes at hw0
      have : len * P.bytesOf e ≤ (elems.length + rest.length) * P.bytesOf e := Nat.mul_le_mul_right _ (by omega)
      omega
    · intro y hy
      obtain ⟨i, hi⟩ := List.getElem?_of_mem hy
      obtain ⟨_, _, _, s, _⟩ := hp i y hi
      exact s
/-- One argument's weights out of all arguments'. -/
theorem weights_at {H : Type} {P : Program} {q : Nat → Bool} : ∀ {ts : List TypeId} {ds : List (DataW H)} {j : Nat} {t : TypeId} {d : DataW H}, (DataW.weightsEach P ts ds).all q = true → ts[j]? = some t → ds[j]? = some d → (d.weights P t).all q = true
  | [], _, j, t, d, _, h, _ => by simp at h
  | _ :: _, [], j, t, d, _, _, h => by simp at h
  | t0 :: ts, d0 :: ds, 0, t, d, hw, ht, hd => by
    simp only [List.getElem?_cons_zero, Option.some.injEq] at ht hd
    subst ht hd
    rw [DataW.weightsEach, List.all_append, Bool.and_eq_true] at hw
    exact hw.1
  | t0 :: ts, d0 :: ds, j + 1, t, d, hw, ht, hd => by
    rw [DataW.weightsEach, List.all_append, Bool.and_eq_true] at hw
    exact weights_at hw.2 (by simpa using ht) (by simpa using hd)
theorem okWide_agg_ {P : Program} {w : World} {r : Reach} {base : Nat} {t : TypeId} {v : Value} {fs : Array Field} (ht : P.underlying t = some (.struct fs)) (h : Value.okWide P w r base t v) : ∃ cs, v = .agg cs ∧ cs.size = P.cellsOf t ∧ Row.okWide P w r base t cs := by
  unfold Value.okWide at h
  rw [ht] at h
  exact h
end Go.Proofs.Ytlbbjdggebgabaa.Op
end
