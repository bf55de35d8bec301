/- From the row's own condition (the listed variable 'named' reads as its table) to what the walks ask: its block holds the table's cells. -/
import Derived.Test.YtklcndfnboieoaaDoorRows
import Derived.Test.YtklcndfnboieoaaDoorH0
import Derived.Lib.LaidTab
import Derived.OpenShut
import Derived.ChangeSame
namespace Go.Proofs.YtklcndfnboieoaaDoor.H
open Go Go.RowKit Go.ChangeShapes

theorem gNamed : Tryd.prog.globalNamed "jobshell/keymap.named" = some 0 := by kernel_rfl
theorem gType : (Tryd.prog.globals[0]?).map (·.type) = some 63 := by kernel_rfl
theorem cells62 : Tryd.prog.cellsOf 62 = 2 := by kernel_rfl
theorem cells63 : Tryd.prog.cellsOf 63 = 10 := by kernel_rfl
theorem cells5 : Tryd.prog.cellsOf 5 = 1 := by kernel_rfl

theorem pair_of {H : Type} {enc : TypeId × Value → H} {w : World} {base : Nat} {sp : Nat → Bool} {held : Bool} {fuel : Nat} {c : List Value} {a b : Int} {p : List MemPlace}
    (h : DataW.trod enc Tryd.prog w base sp held fuel 62 c = some (.agg [.lit (.int .u8 a), .lit (.int .u8 b)], p)) : c = [.int .u8 a, .int .u8 b] := by
  obtain ⟨y0, y1, n, he, hl, h0, h1⟩ := trod_struct2 Tryd.underlying62 h
  obtain ⟨a', e0, ea, _⟩ := DataW.trod_int Tryd.underlying5 h0
  obtain ⟨b', e1, eb, _⟩ := DataW.trod_int Tryd.underlying5 h1
  subst ea eb
  simp only [Prod.mk.injEq, DataW.agg.injEq, List.cons.injEq, DataW.lit.injEq, Lit.int.injEq, true_and, and_true] at he
  obtain ⟨⟨rfl, rfl⟩, _⟩ := he
  rw [cells62] at hl
  simp only [cells5] at e0 e1
  match c, hl with
  | [c0, c1], _ =>
    simp at e0 e1
    rw [e0, e1]

theorem laid_of {W : World} (h : laidMetH Tryd.prog [("jobshell/keymap.named", Rows.laid_jobshell_keymap_named)] W) : Laid W := by
  have h' : laidMet Tryd.prog [("jobshell/keymap.named", Rows.laid_jobshell_keymap_named)] W := h
  obtain ⟨ps, ⟨g', t', cs, fuel, p, q, hg', ht', hvar, hd, _, _⟩, _⟩ := h'
  obtain rfl := Option.some.inj (gNamed.symm.trans hg')
  obtain rfl := Option.some.inj (gType.symm.trans ht')
  obtain ⟨xs, m, _, he, hl, hlen, hel⟩ := DataW.trod_array Tryd.underlying63 hd
  rw [cells63] at hl
  rw [cells62] at hel
  have hx : xs.map (·.1) = [.agg [.lit (.int .u8 27), .lit (.int .u8 101)], .agg [.lit (.int .u8 127), .lit (.int .u8 100)], .agg [.lit (.int .u8 9), .lit (.int .u8 116)], .agg [.lit (.int .u8 10), .lit (.int .u8 110)], .agg [.lit (.int .u8 92), .lit (.int .u8 92)]] := by
    have := (Prod.mk.inj he).1
    unfold Rows.laid_jobshell_keymap_named at this
    simp only [DataW.agg.injEq] at this
    exact this.symm
  match xs, hlen, hx, hel with
  | [x0, x1, x2, x3, x4], _, hx, hel =>
    simp only [List.map_cons, List.map_nil, List.cons.injEq, and_true] at hx
    obtain ⟨e0, e1, e2, e3, e4⟩ := hx
    have g0 := pair_of (p := x0.2) (by rw [hel 0 (by omega), ← e0]; rfl)
    have g1 := pair_of (p := x1.2) (by rw [hel 1 (by omega), ← e1]; rfl)
    have g2 := pair_of (p := x2.2) (by rw [hel 2 (by omega), ← e2]; rfl)
    have g3 := pair_of (p := x3.2) (by rw [hel 3 (by omega), ← e3]; rfl)
    have g4 := pair_of (p := x4.2) (by rw [hel 4 (by omega), ← e4]; rfl)
    have hcs : cs = tbl := by
      apply Array.toList_inj.mp
      generalize cs.toList = l at *
      match l, hl with
      | [a0, a1, a2, a3, a4, a5, a6, a7, a8, a9], _ =>
        simp at g0 g1 g2 g3 g4
        obtain ⟨rfl, rfl⟩ := g0
        obtain ⟨rfl, rfl⟩ := g1
        obtain ⟨rfl, rfl⟩ := g2
        obtain ⟨rfl, rfl⟩ := g3
        obtain ⟨rfl, rfl⟩ := g4
        rfl
    subst hcs
    simp only [World.var?, gNamed, Option.bind_some] at hvar
    split at hvar
    · rename_i c t fr hh
      cases hvar
      exact ⟨t, fr, hh⟩
    · cases hvar
end Go.Proofs.YtklcndfnboieoaaDoor.H
