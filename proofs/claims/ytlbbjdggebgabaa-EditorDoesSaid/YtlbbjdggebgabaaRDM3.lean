/- Texts of this claim, joined: Px0, E0, Px5, Px6, Px7, E1, E2, E3, E4, E5, E6. -/
import Derived.Test.YtlbbjdggebgabaaProg
import Derived.Below
import Derived.Deep.Draws
import Derived.Deep.AppendLies
import Derived.Maps.AppendAt
import Derived.OwnWalk
import Derived.Laws.BytesArg
import Derived.Laws.MakeOwn
import Derived.Laws.OwnMore
import Derived.Deep.OwnRows
import Derived.Tactics
import Derived.Lib.ConvBytes
import Derived.Laws.Slices
import Derived.WalkKit
import Derived.KernelRfl
import Derived.RowKit3
import Derived.Deep.LoopGhost
import Derived.Deep.QuietTactic
import Derived.BigQuiet
import Derived.WideLaws
import Derived.Deep.DeepCutAuto
import Derived.Deep.CutBlock
import Derived.Deep.RegionHeld3
import Derived.Laws.Rows
import Derived.Lib.AppendStr
import Derived.ArgAppend
import Derived.Laws.IdiomCopy
import Derived.OrdersHeld
import Derived.Laws.BitsLemmas
import Derived.RowKit
import Derived.Test.YtlbbjdggebgabaaRDM0
import Derived.Test.YtlbbjdggebgabaaRDM2
import Derived.Deep.RegionLaw
import Derived.StillTailTactics
section
namespace Go.Proofs.Ytlbbjdggebgabaa.P
open Go.RowKit Go.Proofs.YtlbbjdggebgabaaW.PrintWords Go.Proofs.YtlbbjdggebgabaaW.PrintLast Go.Proofs.YtlbbjdggebgabaaW.PrintMore
attribute [local go_sem] max2_int min2_int max_two min_two max_three min_three max_four min_four   -- for this text's walks alone
set_option linter.unusedVariables false
set_option linter.unusedSimpArgs false

def errW : Option Int → Value
  | none => .nilIface
  | some c => .iface 0 (.int .i64 c)
theorem errW_none : errW none = .nilIface := rfl
theorem errW_some (c : Int) : errW (some c) = .iface 0 (.int .i64 c) := rfl

theorem info9 : (Try.prog.info? 9).map (fun i => (i.zero, i.size, i.bytes)) = some (some (.string ⟨#[]⟩), 1, 16) := by kernel_rfl
theorem info23 : (Try.prog.info? 23).map (fun i => (i.zero, i.size, i.bytes)) = some (some (.agg #[(.string ⟨#[]⟩), (.int .i64 0)]), 2, 24) := by kernel_rfl
-- the values' own types
structure S23 where
  f0 : ByteArray
  f1 : Int
def z23 : S23 := ⟨(⟨#[]⟩ : ByteArray), (0 : Int)⟩
def k23 : Kd S23 := Kd.iso (Kd.pair Kd.string (Kd.int .i64)) (fun x : S23 => (x.f0, x.f1))
theorem k23_heap : Kd.Heap k23 := Kd.heap_iso _ (Kd.heap_pair Kd.heap_string (Kd.heap_int .i64))
theorem k23_open {w : World} {x : S23} {cs : List Value} (h : k23.K w x cs) : cs = [.string x.f0, .int .i64 x.f1] := by
  obtain ⟨_, _, rfl, rfl, rfl⟩ := h
  exact rfl
theorem k23_mkM (w : World) (base : Nat) (ok : Nat → Prop) (x : S23)  : k23.M w base ok x [.string x.f0, .int .i64 x.f1] := ⟨[.string x.f0], [.int .i64 x.f1], rfl, rfl, rfl⟩
def rd_T23 (xs : List S23) (i : Int) : S23 := xs.getD i.toNat z23
theorem at_T23 {w : World} {A : Option Addr} {n : Nat} {xs : List S23} (h : Kd.C k23 w A n xs) (i : Int) (h0 : 0 ≤ i) (h1 : i < n) : ∃ ad , A = some ad ∧ w.cell? (ad.add (i.toNat * 2)) = some (.string (rd_T23 xs i).f0) ∧ w.cell? ⟨(ad.add (i.toNat * 2)).block, (ad.add (i.toNat * 2)).off + 1, none⟩ = some (.int .i64 (rd_T23 xs i).f1) := by
  obtain ⟨ad, c, e, _, hK, hc0⟩ := Kd.C_get h z23 i h0 h1
  have hc : ∀ j u, c[j]? = some u → w.cell? (ad.add (i.toNat * 2 + j)) = some u := hc0
  obtain rfl := k23_open hK
  exact ⟨ad, e, hc 0 _ rfl, by rw [← add_field _ _ 1 (by omega)]; exact hc 1 _ rfl⟩

structure S46 where
  f0 : ByteArray
  f1 : Int
def z46 : S46 := ⟨(⟨#[]⟩ : ByteArray), (0 : Int)⟩
def k46 : Kd S46 := Kd.iso (Kd.pair Kd.string (Kd.int .i64)) (fun x : S46 => (x.f0, x.f1))
theorem k46_open {w : World} {x : S46} {cs : List Value} (h : k46.K w x cs) : cs = [.string x.f0, .int .i64 x.f1] := by
  obtain ⟨_, _, rfl, rfl, rfl⟩ := h
  exact rfl
theorem k46_mkM (w : World) (base : Nat) (ok : Nat → Prop) (x : S46)  : k46.M w base ok x [.string x.f0, .int .i64 x.f1] := ⟨[.string x.f0], [.int .i64 x.f1], rfl, rfl, rfl⟩
def rd_T46 (xs : List S46) (i : Int) : S46 := xs.getD i.toNat z46
theorem at_T46 {w : World} {A : Option Addr} {n : Nat} {xs : List S46} (h : Kd.C k46 w A n xs) (i : Int) (h0 : 0 ≤ i) (h1 : i < n) : ∃ ad , A = some ad ∧ w.cell? (ad.add (i.toNat * 2)) = some (.string (rd_T46 xs i).f0) ∧ w.cell? ⟨(ad.add (i.toNat * 2)).block, (ad.add (i.toNat * 2)).off + 1, none⟩ = some (.int .i64 (rd_T46 xs i).f1) := by
  obtain ⟨ad, c, e, _, hK, hc0⟩ := Kd.C_get h z46 i h0 h1
  have hc : ∀ j u, c[j]? = some u → w.cell? (ad.add (i.toNat * 2 + j)) = some u := hc0
  obtain rfl := k46_open hK
  exact ⟨ad, e, hc 0 _ rfl, by rw [← add_field _ _ 1 (by omega)]; exact hc 1 _ rfl⟩

end Go.Proofs.Ytlbbjdggebgabaa.P
end

section
/- The editor's worker: what its block holds. -/
namespace Go.Proofs.Ytlbbjdggebgabaa.P
open Go.RowKit Go.Proofs.YtlbbjdggebgabaaW.PrintWords Go.Proofs.YtlbbjdggebgabaaW.PrintLast Go.Proofs.YtlbbjdggebgabaaW.PrintMore
set_option linter.unusedVariables false
set_option linter.unusedSimpArgs false

/-- An editor with a history. -/
structure St where
  text : ByteArray
  pos : Int
  mark : Int
  kills : List ByteArray
  undo : List S23
  redo : List S23
  keys : ByteArray
  last : Int
  line : Int
  saved : ByteArray
  off : Int
  lines : List ByteArray
def Blk (w : World) (g : Nat) (s : St) (vk vu vr vl : Value) : Prop :=
  w.heap[g]? = some (.cells #[.string s.text, .int .i64 s.pos, .int .i64 s.mark, vk, vu, vr, .string s.keys, .int .i64 s.last, .int .i64 s.line, .string s.saved, .int .i64 s.off, vl] 63 (0, 0))
/-- The lists of a worker: its own rows, undo and redo apart; the history's lines are what came in. -/
def Rows (w0 w : World) (s : St) (vk vu vr vl : Value) : Prop :=
  Kd.R Kd.string 9 w w0.heap.size (fun _ => True) vk s.kills ∧ Kd.R k23 23 w w0.heap.size (fun k => some k ≠ vr.ownBlock) vu s.undo ∧ Kd.R k23 23 w w0.heap.size (fun k => some k ≠ vu.ownBlock) vr s.redo ∧
    ∃ A c, vl = .slice A s.lines.length c ∧ s.lines.length ≤ c ∧ Kd.C Kd.string w0 A s.lines.length s.lines
def IsW (w0 w : World) (g : Nat) (s : St) : Prop := ∃ vk vu vr vl, Blk w g s vk vu vr vl ∧ w0.heap.size ≤ g ∧ Rows w0 w s vk vu vr vl

section
variable {w0 w w1 : World} {g : Nat} {s : St} {vk vu vr vl : Value}
theorem Blk.below (h : Blk w g s vk vu vr vl) (hb : Below w.heap.size w w1) : Blk w1 g s vk vu vr vl := blk_below h hb
theorem Blk.lt (h : Blk w g s vk vu vr vl) : g < w.heap.size := blk_lt h
theorem Blk.cells (h : Blk w g s vk vu vr vl) : w.cell? ⟨g, 0, none⟩ = some (.string s.text) ∧ w.cell? ⟨g, 1, none⟩ = some (.int .i64 s.pos) ∧ w.cell? ⟨g, 2, none⟩ = some (.int .i64 s.mark) ∧ w.cell? ⟨g, 3, none⟩ = some vk ∧ w.cell? ⟨g, 4, none⟩ = some vu ∧ w.cell? ⟨g, 5, none⟩ = some vr ∧
    w.cell? ⟨g, 6, none⟩ = some (.string s.keys) ∧ w.cell? ⟨g, 7, none⟩ = some (.int .i64 s.last) ∧ w.cell? ⟨g, 8, none⟩ = some (.int .i64 s.line) ∧ w.cell? ⟨g, 9, none⟩ = some (.string s.saved) ∧ w.cell? ⟨g, 10, none⟩ = some (.int .i64 s.off) ∧ w.cell? ⟨g, 11, none⟩ = some vl := by
  refine ⟨?_, ?_, ?_, ?_, ?_, ?_, ?_, ?_, ?_, ?_, ?_, ?_⟩ <;> exact (blk_cell h _).trans rfl
theorem Blk.frozen (h : Blk w g s vk vu vr vl) : w.frozen? ⟨g, 0, none⟩ = false ∧ w.frozen? ⟨g, 1, none⟩ = false ∧ w.frozen? ⟨g, 2, none⟩ = false ∧ w.frozen? ⟨g, 3, none⟩ = false ∧ w.frozen? ⟨g, 4, none⟩ = false ∧ w.frozen? ⟨g, 5, none⟩ = false ∧
    w.frozen? ⟨g, 6, none⟩ = false ∧ w.frozen? ⟨g, 7, none⟩ = false ∧ w.frozen? ⟨g, 8, none⟩ = false ∧ w.frozen? ⟨g, 9, none⟩ = false := by
  refine ⟨?_, ?_, ?_, ?_, ?_, ?_, ?_, ?_, ?_, ?_⟩ <;> exact blk_frozen h _
theorem Blk.set0 (h : Blk w g s vk vu vr vl) (x : ByteArray) : Blk (w.setCell ⟨g, 0, none⟩ (.string x)) g { s with text := x } vk vu vr vl := by simpa [Blk] using blk_set h 0 (.string x)
theorem Blk.set1 (h : Blk w g s vk vu vr vl) (x : Int) : Blk (w.setCell ⟨g, 1, none⟩ (.int .i64 x)) g { s with pos := x } vk vu vr vl := by simpa [Blk] using blk_set h 1 (.int .i64 x)
theorem Blk.set2 (h : Blk w g s vk vu vr vl) (x : Int) : Blk (w.setCell ⟨g, 2, none⟩ (.int .i64 x)) g { s with mark := x } vk vu vr vl := by simpa [Blk] using blk_set h 2 (.int .i64 x)
theorem Blk.set3 (h : Blk w g s vk vu vr vl) (l : List ByteArray) (v : Value) : Blk (w.setCell ⟨g, 3, none⟩ v) g { s with kills := l } v vu vr vl := by simpa [Blk] using blk_set h 3 v
theorem Blk.set4 (h : Blk w g s vk vu vr vl) (l : List S23) (v : Value) : Blk (w.setCell ⟨g, 4, none⟩ v) g { s with undo := l } vk v vr vl := by simpa [Blk] using blk_set h 4 v
theorem Blk.set5 (h : Blk w g s vk vu vr vl) (l : List S23) (v : Value) : Blk (w.setCell ⟨g, 5, none⟩ v) g { s with redo := l } vk vu v vl := by simpa [Blk] using blk_set h 5 v
theorem Blk.set8 (h : Blk w g s vk vu vr vl) (x : Int) : Blk (w.setCell ⟨g, 8, none⟩ (.int .i64 x)) g { s with line := x } vk vu vr vl := by simpa [Blk] using blk_set h 8 (.int .i64 x)
theorem Blk.set9 (h : Blk w g s vk vu vr vl) (x : ByteArray) : Blk (w.setCell ⟨g, 9, none⟩ (.string x)) g { s with saved := x } vk vu vr vl := by simpa [Blk] using blk_set h 9 (.string x)
theorem E_string : (Kd.string).E = [] := rfl
theorem E_k23 : k23.E = [] := rfl
theorem Rows.below (h : Rows w0 w s vk vu vr vl) (hb : Below w.heap.size w w1) : Rows w0 w1 s vk vu vr vl := ⟨Kd.R_below h.1 hb, Kd.R_below h.2.1 hb, Kd.R_below h.2.2.1 hb, h.2.2.2⟩
/-- A store into the worker's own block leaves its lists. -/
theorem Rows.set (h : Rows w0 w s vk vu vr vl) {cs : Array Value} (hb : w.heap[g]? = some (.cells cs 63 (0, 0))) (i : Nat) (u : Value) : Rows w0 (w.setCell ⟨g, i, none⟩ u) s vk vu vr vl :=
  ⟨Kd.R_set h.1 hb (by rw [E_string]; decide) i u, Kd.R_set h.2.1 hb (by rw [E_k23]; decide) i u, Kd.R_set h.2.2.1 hb (by rw [E_k23]; decide) i u, h.2.2.2⟩
theorem Rows.scal (h : Rows w0 w s vk vu vr vl) {s' : St} (e1 : s'.kills = s.kills) (e2 : s'.undo = s.undo) (e3 : s'.redo = s.redo) (e4 : s'.lines = s.lines) : Rows w0 w s' vk vu vr vl := by
  unfold Rows
  rw [e1, e2, e3, e4]
  exact h
theorem IsW.below (h : IsW w0 w g s) (hb : Below w.heap.size w w1) : IsW w0 w1 g s := by
  obtain ⟨vk, vu, vr, vl, h1, h2, h3⟩ := h
  exact ⟨vk, vu, vr, vl, h1.below hb, h2, h3.below hb⟩
theorem IsW.ge (h : IsW w0 w g s) : w0.heap.size ≤ g := by obtain ⟨vk, vu, vr, vl, h1, h2, h3⟩ := h; exact h2
theorem IsW.lt (h : IsW w0 w g s) : g < w.heap.size := by obtain ⟨vk, vu, vr, vl, h1, h2, h3⟩ := h; exact h1.lt
end

def clampS (s : St) : St := { s with mark := if (s.text.size : Int) < s.mark then (s.text.size : Int) else s.mark }
set_option maxHeartbeats 1000000 in
set_option maxRecDepth 100000 in
theorem editor_worker_clamp.calls (w0 w : World) (g : Nat) (s : St) (vk vu vr vl : Value) (hI : Blk w g s vk vu vr vl) (hg : w0.heap.size ≤ g) (hB : Below w0.heap.size w0 w) :
    Calls Try.prog 62 #[.pointer (some ⟨g, 0, none⟩)] w fun e w' => e = .returned (.tuple #[]) ∧ Blk w' g (clampS s) vk vu vr vl ∧ Below w0.heap.size w0 w' ∧ KeepBut w w' g none := by
  obtain ⟨c0, c1, c2, c3, c4, c5, c6, c7, c8, c9, c10, c11⟩ := hI.cells
  obtain ⟨f0, f1, f2, f3, f4, f5, f6, f7, f8, f9⟩ := hI.frozen
  have HI := Aside0.mk hI
  have HB := Aside0.mk hB
  clear hI hB
  go_enter Try.func62, Try.ntmps62
  go_wp2
  go_region
  go_end0
  exact ⟨rfl, HI.out.set2 _, below_drew (below_set HB.out hg), (KeepBut.refl w g none).set_ _ _⟩
end Go.Proofs.Ytlbbjdggebgabaa.P
end

section
namespace Go.Proofs.Ytlbbjdggebgabaa.P
open Go.RowKit Go.Proofs.YtlbbjdggebgabaaW.PrintWords Go.Proofs.YtlbbjdggebgabaaW.PrintLast Go.Proofs.YtlbbjdggebgabaaW.PrintMore
attribute [local go_sem] max2_int min2_int max_two min_two max_three min_three max_four min_four   -- for this text's walks alone
set_option linter.unusedVariables false
set_option linter.unusedSimpArgs false

def editor_New.f  : Option (ByteArray × Int × Int × List ByteArray × (List (S23)) × (List (S23)) × ByteArray × Int × Int × ByteArray) := some ((⟨#[]⟩ : ByteArray), 0, 0, ([] : List ByteArray), ([] : List (S23)), ([] : List (S23)), (⟨#[]⟩ : ByteArray), 0, 0, (⟨#[]⟩ : ByteArray))
set_option maxHeartbeats 8000000 in
set_option maxRecDepth 100000 in
theorem editor_New.calls  (r1 : ByteArray) (r2 : Int) (r3 : Int) (r4 : List ByteArray) (r5 : List (S23)) (r6 : List (S23)) (r7 : ByteArray) (r8 : Int) (r9 : Int) (r10 : ByteArray) (w : World) (h : editor_New.f  = some (r1, r2, r3, r4, r5, r6, r7, r8, r9, r10)) :
    Calls Try.prog 14 #[] w fun e w' => ∃ v3_ v4_ v5_ : Value, e = .returned (.agg #[.string r1, .int .i64 r2, .int .i64 r3, v3_, v4_, v5_, .string r7, .int .i64 r8, .int .i64 r9, .string r10]) ∧ Kd.R Kd.string 9 w' w.heap.size (fun _ => True) v3_ r4 ∧ Kd.R k23 23 w' w.heap.size (fun k_ => some k_ ≠ (v5_ : Value).ownBlock) v4_ r5 ∧ Kd.R k23 23 w' w.heap.size (fun k_ => some k_ ≠ (v4_ : Value).ownBlock) v5_ r6 ∧ Below w.heap.size w w' := by
  have hu27 := Try.underlying27
  have HB := Aside0.mk (Below.refl w.heap.size w)
  have H : (some ((⟨#[]⟩ : ByteArray), 0, 0, ([] : List ByteArray), ([] : List (S23)), ([] : List (S23)), (⟨#[]⟩ : ByteArray), 0, 0, (⟨#[]⟩ : ByteArray))) = some (r1, r2, r3, r4, r5, r6, r7, r8, r9, r10) := h
  clear h
  simp only [Option.some.injEq, Prod.mk.injEq] at H
  obtain ⟨rfl, rfl, rfl, rfl, rfl, rfl, rfl, rfl, rfl, rfl⟩ := H
  go_enter Try.func14, Try.ntmps14
  go_wp2_with (first | ((with_reducible refine gate_dst (N := 0) rfl ?_); refine box_event ?hg (N := 0) ?hd (cs := #[.string (⟨#[]⟩ : ByteArray), .int .i64 0, .int .i64 0, .slice none 0 0, .slice none 0 0, .slice none 0 0, .string (⟨#[]⟩ : ByteArray), .int .i64 0, .int .i64 0, .string (⟨#[]⟩ : ByteArray)]) (t := 27) ?hr ?_; (case hd => rfl); (case hg => rfl); (case hr => first | (go_simp; done) | (go_simp; rfl)); intro gb120 hg w1 hbox hb; have n0_ := Aside0.mk (below_step (by repeat (first | (with_reducible first | exact HB.out | apply below_alloc | apply pw_below_drewN | apply below_drew1) | exact HB.out)) hb); have n1_ := Aside0.mk (hbox); have n2_ := Aside0.mk ((by rw [hg]; exact (below_size (by repeat (first | (with_reducible first | exact HB.out | apply below_alloc | apply pw_below_drewN | apply below_drew1) | exact HB.out))) : w.heap.size ≤ gb120)); have n3_ := Aside0.mk ((by rw [hg]; exact (below_size (by repeat (first | (with_reducible first | exact HB.out | apply below_alloc | apply pw_below_drewN | apply below_drew1) | exact HB.out))) : w.heap.size ≤ gb120)); clear HB; have HB := n0_; have BK120 := n1_; have GW120 := n2_; have GE120 := n3_; clear n0_ n1_ n2_ n3_; clear hb hbox hg; have hcz2_0 : w1.cell? ⟨gb120, 0, none⟩ = some (.string (⟨#[]⟩ : ByteArray)) := (blk_cell BK120.out 0).trans rfl; have hcz2_1 : w1.cell? ⟨gb120, 1, none⟩ = some (.int .i64 0) := (blk_cell BK120.out 1).trans rfl; have hcz2_2 : w1.cell? ⟨gb120, 2, none⟩ = some (.int .i64 0) := (blk_cell BK120.out 2).trans rfl; have hcz2_3 : w1.cell? ⟨gb120, 3, none⟩ = some (.slice none 0 0) := (blk_cell BK120.out 3).trans rfl; have hcz2_4 : w1.cell? ⟨gb120, 4, none⟩ = some (.slice none 0 0) := (blk_cell BK120.out 4).trans rfl; have hcz2_5 : w1.cell? ⟨gb120, 5, none⟩ = some (.slice none 0 0) := (blk_cell BK120.out 5).trans rfl; have hcz2_6 : w1.cell? ⟨gb120, 6, none⟩ = some (.string (⟨#[]⟩ : ByteArray)) := (blk_cell BK120.out 6).trans rfl; have hcz2_7 : w1.cell? ⟨gb120, 7, none⟩ = some (.int .i64 0) := (blk_cell BK120.out 7).trans rfl; have hcz2_8 : w1.cell? ⟨gb120, 8, none⟩ = some (.int .i64 0) := (blk_cell BK120.out 8).trans rfl; have hcz2_9 : w1.cell? ⟨gb120, 9, none⟩ = some (.string (⟨#[]⟩ : ByteArray)) := (blk_cell BK120.out 9).trans rfl; have hfz2_0 := blk_frozen BK120.out 0; have hfz2_1 := blk_frozen BK120.out 1; have hfz2_2 := blk_frozen BK120.out 2; have hfz2_3 := blk_frozen BK120.out 3; have hfz2_4 := blk_frozen BK120.out 4; have hfz2_5 := blk_frozen BK120.out 5; have hfz2_6 := blk_frozen BK120.out 6; have hfz2_7 := blk_frozen BK120.out 7; have hfz2_8 := blk_frozen BK120.out 8; have hfz2_9 := blk_frozen BK120.out 9))
  refine bodyPost_ret (results_cell_row rfl _ _ gb120 27 #[.string (⟨#[]⟩ : ByteArray), .int .i64 0, .int .i64 0, .slice none 0 0, .slice none 0 0, .slice none 0 0, .string (⟨#[]⟩ : ByteArray), .int .i64 0, .int .i64 0, .string (⟨#[]⟩ : ByteArray)] (0, 0) _ rfl (by (with_reducible repeat (first | refine blk_drewN ?_ _ | refine blk_drew ?_ | refine blk_alloc ?_ _)); refine blk_put (cs := #[.string (⟨#[]⟩ : ByteArray), .int .i64 0, .int .i64 0, .slice none 0 0, .slice none 0 0, .slice none 0 0, .string (⟨#[]⟩ : ByteArray), .int .i64 0, .int .i64 0, .string (⟨#[]⟩ : ByteArray)]) ?_ 9 _ rfl; (with_reducible repeat (first | refine blk_drewN ?_ _ | refine blk_drew ?_ | refine blk_alloc ?_ _)); refine blk_put (cs := #[.string (⟨#[]⟩ : ByteArray), .int .i64 0, .int .i64 0, .slice none 0 0, .slice none 0 0, .slice none 0 0, .string (⟨#[]⟩ : ByteArray), .int .i64 0, .int .i64 0, .string (⟨#[]⟩ : ByteArray)]) ?_ 8 _ rfl; (with_reducible repeat (first | refine blk_drewN ?_ _ | refine blk_drew ?_ | refine blk_alloc ?_ _)); refine blk_put (cs := #[.string (⟨#[]⟩ : ByteArray), .int .i64 0, .int .i64 0, .slice none 0 0, .slice none 0 0, .slice none 0 0, .string (⟨#[]⟩ : ByteArray), .int .i64 0, .int .i64 0, .string (⟨#[]⟩ : ByteArray)]) ?_ 7 _ rfl; (with_reducible repeat (first | refine blk_drewN ?_ _ | refine blk_drew ?_ | refine blk_alloc ?_ _)); refine blk_put (cs := #[.string (⟨#[]⟩ : ByteArray), .int .i64 0, .int .i64 0, .slice none 0 0, .slice none 0 0, .slice none 0 0, .string (⟨#[]⟩ : ByteArray), .int .i64 0, .int .i64 0, .string (⟨#[]⟩ : ByteArray)]) ?_ 6 _ rfl; (with_reducible repeat (first | refine blk_drewN ?_ _ | refine blk_drew ?_ | refine blk_alloc ?_ _)); refine blk_put (cs := #[.string (⟨#[]⟩ : ByteArray), .int .i64 0, .int .i64 0, .slice none 0 0, .slice none 0 0, .slice none 0 0, .string (⟨#[]⟩ : ByteArray), .int .i64 0, .int .i64 0, .string (⟨#[]⟩ : ByteArray)]) ?_ 5 _ rfl; (with_reducible repeat (first | refine blk_drewN ?_ _ | refine blk_drew ?_ | refine blk_alloc ?_ _)); refine blk_put (cs := #[.string (⟨#[]⟩ : ByteArray), .int .i64 0, .int .i64 0, .slice none 0 0, .slice none 0 0, .slice none 0 0, .string (⟨#[]⟩ : ByteArray), .int .i64 0, .int .i64 0, .string (⟨#[]⟩ : ByteArray)]) ?_ 4 _ rfl; (with_reducible repeat (first | refine blk_drewN ?_ _ | refine blk_drew ?_ | refine blk_alloc ?_ _)); refine blk_put (cs := #[.string (⟨#[]⟩ : ByteArray), .int .i64 0, .int .i64 0, .slice none 0 0, .slice none 0 0, .slice none 0 0, .string (⟨#[]⟩ : ByteArray), .int .i64 0, .int .i64 0, .string (⟨#[]⟩ : ByteArray)]) ?_ 3 _ rfl; (with_reducible repeat (first | refine blk_drewN ?_ _ | refine blk_drew ?_ | refine blk_alloc ?_ _)); refine blk_put (cs := #[.string (⟨#[]⟩ : ByteArray), .int .i64 0, .int .i64 0, .slice none 0 0, .slice none 0 0, .slice none 0 0, .string (⟨#[]⟩ : ByteArray), .int .i64 0, .int .i64 0, .string (⟨#[]⟩ : ByteArray)]) ?_ 2 _ rfl; (with_reducible repeat (first | refine blk_drewN ?_ _ | refine blk_drew ?_ | refine blk_alloc ?_ _)); refine blk_put (cs := #[.string (⟨#[]⟩ : ByteArray), .int .i64 0, .int .i64 0, .slice none 0 0, .slice none 0 0, .slice none 0 0, .string (⟨#[]⟩ : ByteArray), .int .i64 0, .int .i64 0, .string (⟨#[]⟩ : ByteArray)]) ?_ 1 _ rfl; (with_reducible repeat (first | refine blk_drewN ?_ _ | refine blk_drew ?_ | refine blk_alloc ?_ _)); refine blk_put (cs := #[.string (⟨#[]⟩ : ByteArray), .int .i64 0, .int .i64 0, .slice none 0 0, .slice none 0 0, .slice none 0 0, .string (⟨#[]⟩ : ByteArray), .int .i64 0, .int .i64 0, .string (⟨#[]⟩ : ByteArray)]) ?_ 0 _ rfl; (with_reducible repeat (first | refine blk_drewN ?_ _ | refine blk_drew ?_ | refine blk_alloc ?_ _)); exact BK120.out) Try.underlying27 rfl (by kernel_rfl)) rfl ?_
  exact ⟨_, _, _, by first | rfl | (simp [errW_none, errW_some] <;> rfl) | (simp [*, errW_none, errW_some] <;> rfl), by first | exact Kd.R_nil _ _ _ _ _ | exact Kd.N_nil _ _ _ _ _ | exact Kd.V_nil _ _ _ _ _ | exact Kd.Q_nil _ _ _ _ _ | exact Kd.S_nil _ _ _ _ _, by first | exact Kd.R_nil _ _ _ _ _ | exact Kd.N_nil _ _ _ _ _ | exact Kd.V_nil _ _ _ _ _ | exact Kd.Q_nil _ _ _ _ _ | exact Kd.S_nil _ _ _ _ _, by first | exact Kd.R_nil _ _ _ _ _ | exact Kd.N_nil _ _ _ _ _ | exact Kd.V_nil _ _ _ _ _ | exact Kd.Q_nil _ _ _ _ _ | exact Kd.S_nil _ _ _ _ _, by repeat (first | (with_reducible first | exact HB.out | apply below_alloc | apply pw_below_drewN | apply below_drew1 | refine below_set ?_ GE120.out) | exact HB.out)⟩

-- NOT PRINTED: function 27 (editor_begin)

def editor_letter.f (a0 : Int) : Option (Bool) := if a0 ≥ 97 then (if a0 ≤ 122 then (some true) else (if a0 ≥ 65 then (if a0 ≤ 90 then (some true) else (if a0 ≥ 48 then (if a0 ≤ 57 then (some true) else (some (a0 == 95))) else (some (a0 == 95)))) else (if a0 ≥ 48 then (if a0 ≤ 57 then (some true) else (some (a0 == 95))) else (some (a0 == 95))))) else (if a0 ≥ 65 then (if a0 ≤ 90 then (some true) else (if a0 ≥ 48 then (if a0 ≤ 57 then (some true) else (some (a0 == 95))) else (some (a0 == 95)))) else (if a0 ≥ 48 then (if a0 ≤ 57 then (some true) else (some (a0 == 95))) else (some (a0 == 95))))
set_option maxHeartbeats 8000000 in
set_option maxRecDepth 100000 in
theorem editor_letter.calls (a0 : Int) (r : Bool) (w : World) (h : editor_letter.f a0 = some r) :
    Calls Try.prog 58 #[.int .u8 a0] w fun e w' => e = .returned (.bool r) ∧ Drawn0 w w' := by
  have H : (if a0 ≥ 97 then (if a0 ≤ 122 then (some true) else (if a0 ≥ 65 then (if a0 ≤ 90 then (some true) else (if a0 ≥ 48 then (if a0 ≤ 57 then (some true) else (some (a0 == 95))) else (some (a0 == 95)))) else (if a0 ≥ 48 then (if a0 ≤ 57 then (some true) else (some (a0 == 95))) else (some (a0 == 95))))) else (if a0 ≥ 65 then (if a0 ≤ 90 then (some true) else (if a0 ≥ 48 then (if a0 ≤ 57 then (some true) else (some (a0 == 95))) else (some (a0 == 95)))) else (if a0 ≥ 48 then (if a0 ≤ 57 then (some true) else (some (a0 == 95))) else (some (a0 == 95))))) = some r := h
  clear h
  by_cases c2 : a0 ≥ 97
  · rw [if_pos c2] at H
    have c2b0 : decide (97 ≤ a0) = true := decide_eq_true c2
    clear c2
    by_cases c3 : a0 ≤ 122
    · rw [if_pos c3] at H
      have c3b0 : decide (a0 ≤ 122) = true := decide_eq_true c3
      clear c3
      obtain rfl := Option.some.inj H
      go_enter Try.func58, Try.ntmps58
      go_wp2
      go_ret
      exact ⟨by first | rfl | (simp; done) | (simp [*]; done), by repeat (first | exact Drawn0.refl _ | apply Drawn0.step)⟩
    · rw [if_neg c3] at H
      have c3b0 : decide (a0 ≤ 122) = false := decide_eq_false c3
      clear c3
      by_cases c4 : a0 ≥ 65
      · rw [if_pos c4] at H
        have c4b0 : decide (65 ≤ a0) = true := decide_eq_true c4
        clear c4
        by_cases c5 : a0 ≤ 90
        · rw [if_pos c5] at H
          have c5b0 : decide (a0 ≤ 90) = true := decide_eq_true c5
          clear c5
          obtain rfl := Option.some.inj H
          go_enter Try.func58, Try.ntmps58
          go_wp2
          go_ret
          exact ⟨by first | rfl | (simp; done) | (simp [*]; done), by repeat (first | exact Drawn0.refl _ | apply Drawn0.step)⟩
        · rw [if_neg c5] at H
          have c5b0 : decide (a0 ≤ 90) = false := decide_eq_false c5
          clear c5
          by_cases c6 : a0 ≥ 48
          · rw [if_pos c6] at H
            have c6b0 : decide (48 ≤ a0) = true := decide_eq_true c6
            clear c6
            by_cases c7 : a0 ≤ 57
            · rw [if_pos c7] at H
              have c7b0 : decide (a0 ≤ 57) = true := decide_eq_true c7
              clear c7
              obtain rfl := Option.some.inj H
              go_enter Try.func58, Try.ntmps58
              go_wp2
              go_ret
              exact ⟨by first | rfl | (simp; done) | (simp [*]; done), by repeat (first | exact Drawn0.refl _ | apply Drawn0.step)⟩
            · rw [if_neg c7] at H
              have c7b0 : decide (a0 ≤ 57) = false := decide_eq_false c7
              clear c7
              obtain rfl := Option.some.inj H
              go_enter Try.func58, Try.ntmps58
              go_wp2
              go_ret
              exact ⟨by first | rfl | (simp; done) | (simp [*]; done), by repeat (first | exact Drawn0.refl _ | apply Drawn0.step)⟩
          · rw [if_neg c6] at H
            have c6b0 : decide (48 ≤ a0) = false := decide_eq_false c6
            clear c6
            obtain rfl := Option.some.inj H
            go_enter Try.func58, Try.ntmps58
            go_wp2
            go_ret
            exact ⟨by first | rfl | (simp; done) | (simp [*]; done), by repeat (first | exact Drawn0.refl _ | apply Drawn0.step)⟩
      · rw [if_neg c4] at H
        have c4b0 : decide (65 ≤ a0) = false := decide_eq_false c4
        clear c4
        by_cases c8 : a0 ≥ 48
        · rw [if_pos c8] at H
          have c8b0 : decide (48 ≤ a0) = true := decide_eq_true c8
          clear c8
          by_cases c9 : a0 ≤ 57
          · rw [if_pos c9] at H
            have c9b0 : decide (a0 ≤ 57) = true := decide_eq_true c9
            clear c9
            obtain rfl := Option.some.inj H
            go_enter Try.func58, Try.ntmps58
            go_wp2
            go_ret
            exact ⟨by first | rfl | (simp; done) | (simp [*]; done), by repeat (first | exact Drawn0.refl _ | apply Drawn0.step)⟩
          · rw [if_neg c9] at H
            have c9b0 : decide (a0 ≤ 57) = false := decide_eq_false c9
            clear c9
            obtain rfl := Option.some.inj H
            go_enter Try.func58, Try.ntmps58
            go_wp2
            go_ret
            exact ⟨by first | rfl | (simp; done) | (simp [*]; done), by repeat (first | exact Drawn0.refl _ | apply Drawn0.step)⟩
        · rw [if_neg c8] at H
          have c8b0 : decide (48 ≤ a0) = false := decide_eq_false c8
          clear c8
          obtain rfl := Option.some.inj H
          go_enter Try.func58, Try.ntmps58
          go_wp2
          go_ret
          exact ⟨by first | rfl | (simp; done) | (simp [*]; done), by repeat (first | exact Drawn0.refl _ | apply Drawn0.step)⟩
  · rw [if_neg c2] at H
    have c2b0 : decide (97 ≤ a0) = false := decide_eq_false c2
    clear c2
    by_cases c10 : a0 ≥ 65
    · rw [if_pos c10] at H
      have c10b0 : decide (65 ≤ a0) = true := decide_eq_true c10
      clear c10
      by_cases c11 : a0 ≤ 90
      · rw [if_pos c11] at H
        have c11b0 : decide (a0 ≤ 90) = true := decide_eq_true c11
        clear c11
        obtain rfl := Option.some.inj H
        go_enter Try.func58, Try.ntmps58
        go_wp2
        go_ret
        exact ⟨by first | rfl | (simp; done) | (simp [*]; done), by repeat (first | exact Drawn0.refl _ | apply Drawn0.step)⟩
      · rw [if_neg c11] at H
        have c11b0 : decide (a0 ≤ 90) = false := decide_eq_false c11
        clear c11
        by_cases c12 : a0 ≥ 48
        · rw [if_pos c12] at H
          have c12b0 : decide (48 ≤ a0) = true := decide_eq_true c12
          clear c12
          by_cases c13 : a0 ≤ 57
          · rw [if_pos c13] at H
            have c13b0 : decide (a0 ≤ 57) = true := decide_eq_true c13
            clear c13
            obtain rfl := Option.some.inj H
            go_enter Try.func58, Try.ntmps58
            go_wp2
            go_ret
            exact ⟨by first | rfl | (simp; done) | (simp [*]; done), by repeat (first | exact Drawn0.refl _ | apply Drawn0.step)⟩
          · rw [if_neg c13] at H
            have c13b0 : decide (a0 ≤ 57) = false := decide_eq_false c13
            clear c13
            obtain rfl := Option.some.inj H
            go_enter Try.func58, Try.ntmps58
            go_wp2
            go_ret
            exact ⟨by first | rfl | (simp; done) | (simp [*]; done), by repeat (first | exact Drawn0.refl _ | apply Drawn0.step)⟩
        · rw [if_neg c12] at H
          have c12b0 : decide (48 ≤ a0) = false := decide_eq_false c12
          clear c12
          obtain rfl := Option.some.inj H
          go_enter Try.func58, Try.ntmps58
          go_wp2
          go_ret
          exact ⟨by first | rfl | (simp; done) | (simp [*]; done), by repeat (first | exact Drawn0.refl _ | apply Drawn0.step)⟩
    · rw [if_neg c10] at H
      have c10b0 : decide (65 ≤ a0) = false := decide_eq_false c10
      clear c10
      by_cases c14 : a0 ≥ 48
      · rw [if_pos c14] at H
        have c14b0 : decide (48 ≤ a0) = true := decide_eq_true c14
        clear c14
        by_cases c15 : a0 ≤ 57
        · rw [if_pos c15] at H
          have c15b0 : decide (a0 ≤ 57) = true := decide_eq_true c15
          clear c15
          obtain rfl := Option.some.inj H
          go_enter Try.func58, Try.ntmps58
          go_wp2
          go_ret
          exact ⟨by first | rfl | (simp; done) | (simp [*]; done), by repeat (first | exact Drawn0.refl _ | apply Drawn0.step)⟩
        · rw [if_neg c15] at H
          have c15b0 : decide (a0 ≤ 57) = false := decide_eq_false c15
          clear c15
          obtain rfl := Option.some.inj H
          go_enter Try.func58, Try.ntmps58
          go_wp2
          go_ret
          exact ⟨by first | rfl | (simp; done) | (simp [*]; done), by repeat (first | exact Drawn0.refl _ | apply Drawn0.step)⟩
      · rw [if_neg c14] at H
        have c14b0 : decide (48 ≤ a0) = false := decide_eq_false c14
        clear c14
        obtain rfl := Option.some.inj H
        go_enter Try.func58, Try.ntmps58
        go_wp2
        go_ret
        exact ⟨by first | rfl | (simp; done) | (simp [*]; done), by repeat (first | exact Drawn0.refl _ | apply Drawn0.step)⟩

/-- A state of type 63 at block g of W; what its slices lead to came in by w0. -/
def IsS63 (w0 W : World) (g : Nat) (f0 : ByteArray) (f1 : Int) (f2 : Int) (f3 : List ByteArray) (f4 : List (S23)) (f5 : List (S23)) (f6 : ByteArray) (f7 : Int) (f8 : Int) (f9 : ByteArray) (f10 : Int) (f11 : List ByteArray) : Prop := ∃ A3 c3, ∃ A4 c4, ∃ A5 c5, ∃ A11 c11, W.heap[g]? = some (.cells #[.string f0, .int .i64 f1, .int .i64 f2, .slice A3 f3.length c3, .slice A4 f4.length c4, .slice A5 f5.length c5, .string f6, .int .i64 f7, .int .i64 f8, .string f9, .int .i64 f10, .slice A11 f11.length c11] 63 (0, 0)) ∧ w0.heap.size ≤ g ∧ Kd.C Kd.string w0 A3 f3.length f3 ∧ Kd.C k23 w0 A4 f4.length f4 ∧ Kd.C k23 w0 A5 f5.length f5 ∧ Kd.C Kd.string w0 A11 f11.length f11
theorem IsS63.grown {w0 W : World} {g : Nat} {f0 : ByteArray} {f1 : Int} {f2 : Int} {f3 : List ByteArray} {f4 : List (S23)} {f5 : List (S23)} {f6 : ByteArray} {f7 : Int} {f8 : Int} {f9 : ByteArray} {f10 : Int} {f11 : List ByteArray} {W1 : World} {row : Option Nat} (h : IsS63 w0 W g f0 f1 f2 f3 f4 f5 f6 f7 f8 f9 f10 f11) (hw : W.grownBy W1 row) (hne : some g ≠ row) : IsS63 w0 W1 g f0 f1 f2 f3 f4 f5 f6 f7 f8 f9 f10 f11 := by
  obtain ⟨A3, c3, A4, c4, A5, c5, A11, c11, hb, hg, hr3, hr4, hr5, hr11⟩ := h
  exact ⟨A3, c3, A4, c4, A5, c5, A11, c11, blk_grown hb hw hne, hg, hr3, hr4, hr5, hr11⟩
theorem IsS63.kept {w0 W : World} {g : Nat} {f0 : ByteArray} {f1 : Int} {f2 : Int} {f3 : List ByteArray} {f4 : List (S23)} {f5 : List (S23)} {f6 : ByteArray} {f7 : Int} {f8 : Int} {f9 : ByteArray} {f10 : Int} {f11 : List ByteArray} {W1 : World} {S : Nat → Prop} (h : IsS63 w0 W g f0 f1 f2 f3 f4 f5 f6 f7 f8 f9 f10 f11) (hk : Kept W W1 S) (hne : ¬ S g) : IsS63 w0 W1 g f0 f1 f2 f3 f4 f5 f6 f7 f8 f9 f10 f11 := by
  obtain ⟨A3, c3, A4, c4, A5, c5, A11, c11, hb, hg, hr3, hr4, hr5, hr11⟩ := h
  exact ⟨A3, c3, A4, c4, A5, c5, A11, c11, blk_kept hb hk hne, hg, hr3, hr4, hr5, hr11⟩
theorem IsS63.below {w0 W : World} {g : Nat} {f0 : ByteArray} {f1 : Int} {f2 : Int} {f3 : List ByteArray} {f4 : List (S23)} {f5 : List (S23)} {f6 : ByteArray} {f7 : Int} {f8 : Int} {f9 : ByteArray} {f10 : Int} {f11 : List ByteArray} {W1 : World} (h : IsS63 w0 W g f0 f1 f2 f3 f4 f5 f6 f7 f8 f9 f10 f11) (hw : Below W.heap.size W W1) : IsS63 w0 W1 g f0 f1 f2 f3 f4 f5 f6 f7 f8 f9 f10 f11 := h.grown (grown_of_below hw none) (by simp)
theorem IsS63.alloc {w0 W : World} {g : Nat} {f0 : ByteArray} {f1 : Int} {f2 : Int} {f3 : List ByteArray} {f4 : List (S23)} {f5 : List (S23)} {f6 : ByteArray} {f7 : Int} {f8 : Int} {f9 : ByteArray} {f10 : Int} {f11 : List ByteArray} (h : IsS63 w0 W g f0 f1 f2 f3 f4 f5 f6 f7 f8 f9 f10 f11) (o : Obj) : IsS63 w0 (W.alloc o) g f0 f1 f2 f3 f4 f5 f6 f7 f8 f9 f10 f11 := h.below (below_alloc (Below.refl _ _) o)
theorem IsS63.drewN {w0 W : World} {g : Nat} {f0 : ByteArray} {f1 : Int} {f2 : Int} {f3 : List ByteArray} {f4 : List (S23)} {f5 : List (S23)} {f6 : ByteArray} {f7 : Int} {f8 : Int} {f9 : ByteArray} {f10 : Int} {f11 : List ByteArray} (h : IsS63 w0 W g f0 f1 f2 f3 f4 f5 f6 f7 f8 f9 f10 f11) (m : Nat) : IsS63 w0 (W.drewN m) g f0 f1 f2 f3 f4 f5 f6 f7 f8 f9 f10 f11 := h
theorem IsS63.drew {w0 W : World} {g : Nat} {f0 : ByteArray} {f1 : Int} {f2 : Int} {f3 : List ByteArray} {f4 : List (S23)} {f5 : List (S23)} {f6 : ByteArray} {f7 : Int} {f8 : Int} {f9 : ByteArray} {f10 : Int} {f11 : List ByteArray} (h : IsS63 w0 W g f0 f1 f2 f3 f4 f5 f6 f7 f8 f9 f10 f11) : IsS63 w0 W.drew g f0 f1 f2 f3 f4 f5 f6 f7 f8 f9 f10 f11 := h
theorem IsS63.at_ {w0 W : World} {g : Nat} {f0 : ByteArray} {f1 : Int} {f2 : Int} {f3 : List ByteArray} {f4 : List (S23)} {f5 : List (S23)} {f6 : ByteArray} {f7 : Int} {f8 : Int} {f9 : ByteArray} {f10 : Int} {f11 : List ByteArray} {w' : World} {m : Nat} (hq : W.drewN m = w') (h : IsS63 w0 W g f0 f1 f2 f3 f4 f5 f6 f7 f8 f9 f10 f11) : IsS63 w0 w' g f0 f1 f2 f3 f4 f5 f6 f7 f8 f9 f10 f11 := by subst hq; exact IsS63.drewN h m
theorem IsS63.apart {w0 W : World} {g : Nat} {f0 : ByteArray} {f1 : Int} {f2 : Int} {f3 : List ByteArray} {f4 : List (S23)} {f5 : List (S23)} {f6 : ByteArray} {f7 : Int} {f8 : Int} {f9 : ByteArray} {f10 : Int} {f11 : List ByteArray} {α : Type} {d : Kd α} {e : Nat} {base : Nat} {ok : Nat → Prop} {v : Value} {xs : List α} (h : IsS63 w0 W g f0 f1 f2 f3 f4 f5 f6 f7 f8 f9 f10 f11) (ho : d.R e W base ok v xs) (ht : ∀ q, q ∈ e :: d.E → q ≠ 63) : d.R e W base (fun k => ok k ∧ k ≠ g) v xs := by
  obtain ⟨A3, c3, A4, c4, A5, c5, A11, c11, hb, hg, hr3, hr4, hr5, hr11⟩ := h
  exact Kd.R_types ho hb ht
theorem IsS63.own_ne {w0 W : World} {g : Nat} {f0 : ByteArray} {f1 : Int} {f2 : Int} {f3 : List ByteArray} {f4 : List (S23)} {f5 : List (S23)} {f6 : ByteArray} {f7 : Int} {f8 : Int} {f9 : ByteArray} {f10 : Int} {f11 : List ByteArray} {α : Type} {d : Kd α} {e : Nat} {base : Nat} {ok : Nat → Prop} {v : Value} {xs : List α} (h : IsS63 w0 W g f0 f1 f2 f3 f4 f5 f6 f7 f8 f9 f10 f11) (ho : d.R e W base ok v xs) (ht : e ≠ 63) : some g ≠ v.ownBlock := by
  obtain ⟨A3, c3, A4, c4, A5, c5, A11, c11, hb, hg, hr3, hr4, hr5, hr11⟩ := h
  exact Kd.R_ne ho hb ht
theorem IsS63.lt {w0 W : World} {g : Nat} {f0 : ByteArray} {f1 : Int} {f2 : Int} {f3 : List ByteArray} {f4 : List (S23)} {f5 : List (S23)} {f6 : ByteArray} {f7 : Int} {f8 : Int} {f9 : ByteArray} {f10 : Int} {f11 : List ByteArray} (h : IsS63 w0 W g f0 f1 f2 f3 f4 f5 f6 f7 f8 f9 f10 f11) : g < W.heap.size := by
  obtain ⟨A3, c3, A4, c4, A5, c5, A11, c11, hb, hg, hr3, hr4, hr5, hr11⟩ := h
  exact blk_lt hb
theorem IsS63.ge {w0 W : World} {g : Nat} {f0 : ByteArray} {f1 : Int} {f2 : Int} {f3 : List ByteArray} {f4 : List (S23)} {f5 : List (S23)} {f6 : ByteArray} {f7 : Int} {f8 : Int} {f9 : ByteArray} {f10 : Int} {f11 : List ByteArray} (h : IsS63 w0 W g f0 f1 f2 f3 f4 f5 f6 f7 f8 f9 f10 f11) : w0.heap.size ≤ g := by
  obtain ⟨A3, c3, A4, c4, A5, c5, A11, c11, hb, hg, hr3, hr4, hr5, hr11⟩ := h
  exact hg
theorem IsS63.new (w0 W : World) (A3 : Option Addr) (c3 : Nat) (A4 : Option Addr) (c4 : Nat) (A5 : Option Addr) (c5 : Nat) (A11 : Option Addr) (c11 : Nat) (f0 : ByteArray) (f1 : Int) (f2 : Int) (f3 : List ByteArray) (f4 : List (S23)) (f5 : List (S23)) (f6 : ByteArray) (f7 : Int) (f8 : Int) (f9 : ByteArray) (f10 : Int) (f11 : List ByteArray) (hB : Below w0.heap.size w0 W) (hr3 : Kd.C Kd.string w0 A3 f3.length f3) (hr4 : Kd.C k23 w0 A4 f4.length f4) (hr5 : Kd.C k23 w0 A5 f5.length f5) (hr11 : Kd.C Kd.string w0 A11 f11.length f11) : IsS63 w0 (W.alloc (.cells #[.string f0, .int .i64 f1, .int .i64 f2, .slice A3 f3.length c3, .slice A4 f4.length c4, .slice A5 f5.length c5, .string f6, .int .i64 f7, .int .i64 f8, .string f9, .int .i64 f10, .slice A11 f11.length c11] 63)) W.heap.size f0 f1 f2 f3 f4 f5 f6 f7 f8 f9 f10 f11 := ⟨A3, c3, A4, c4, A5, c5, A11, c11, by simpa using heap_alloc_new W _, hB.size, hr3, hr4, hr5, hr11⟩

end Go.Proofs.Ytlbbjdggebgabaa.P
end

section
namespace Go.Proofs.Ytlbbjdggebgabaa.P
open Go.RowKit Go.Proofs.YtlbbjdggebgabaaW.PrintWords Go.Proofs.YtlbbjdggebgabaaW.PrintLast Go.Proofs.YtlbbjdggebgabaaW.PrintMore
attribute [local go_sem] max2_int min2_int max_two min_two max_three min_three max_four min_four   -- for this text's walks alone
set_option linter.unusedVariables false
set_option linter.unusedSimpArgs false

def editor_push.f (l0 : List (S23)) (a1_0 : ByteArray) (a1_1 : Int) : Option ((List (S23))) := if l0.length < 5864062014805 then ((some (l0 ++ [(⟨a1_0, a1_1⟩ : S23)] : List (S23))).bind fun y165 => (if (y165.length : Int) > 64 then ((some (([] : List (S23)) : List (S23))).bind fun y168 => (if 1 ≤ (y165.length : Int) then ((some (y165.drop 1 : List (S23))).bind fun y171 => (if y168.length + y171.length < 5864062014805 then (some (y168 ++ y171)) else (none))) else (none))) else (some y165))) else (none)
set_option maxHeartbeats 8000000 in
set_option maxRecDepth 100000 in
theorem editor_push.calls (P0_ : Nat → Prop) (u9000_ : Value) (l0 : List (S23)) (a1_0 : ByteArray) (a1_1 : Int) (r : List (S23)) (w0 w : World) (hB : Below w0.heap.size w0 w) (ho0 : Kd.R k23 23 w w0.heap.size P0_ u9000_ l0) (h : editor_push.f l0 a1_0 a1_1 = some r) :
    Calls Try.prog 61 #[u9000_, .agg #[.string a1_0, .int .i64 a1_1]] w fun e w' => ∃ v0_ : Value, e = .returned (v0_) ∧ Kd.R k23 23 w' w0.heap.size (fun k_ => (P0_ k_ ∨ w.heap.size ≤ k_)) v0_ r ∧ Below w0.heap.size w0 w' ∧ Kept w w' (fun k_ => P0_ k_) := by
  have hu23 := Try.underlying23
  have HO0 := Aside0.mk (show Kd.R k23 23 w w0.heap.size (fun k_ => (P0_ k_ ∨ w.heap.size ≤ k_)) u9000_ l0 from Kd.R_mono ho0 (fun k_ hk => (.inl hk)))
  have HK := Aside0.mk (Kept.refl w (fun k_ => P0_ k_))
  have HW0 := Aside0.mk hB.size
  have HB := Aside0.mk hB
  clear hB
  have H : (if l0.length < 5864062014805 then ((some (l0 ++ [(⟨a1_0, a1_1⟩ : S23)] : List (S23))).bind fun y165 => (if (y165.length : Int) > 64 then ((some (([] : List (S23)) : List (S23))).bind fun y168 => (if 1 ≤ (y165.length : Int) then ((some (y165.drop 1 : List (S23))).bind fun y171 => (if y168.length + y171.length < 5864062014805 then (some (y168 ++ y171)) else (none))) else (none))) else (some y165))) else (none)) = some r := h
  clear h
  by_cases c3 : l0.length < 5864062014805
  · rw [if_pos c3] at H
    have LMc3 := Aside0.mk c3
    clear c3
    obtain ⟨y165, hy165⟩ : ∃ y_ : List (S23), y_ = (l0 ++ [(⟨a1_0, a1_1⟩ : S23)]) := ⟨_, rfl⟩
    replace H : (if (y165.length : Int) > 64 then ((some (([] : List (S23)) : List (S23))).bind fun y168 => (if 1 ≤ (y165.length : Int) then ((some (y165.drop 1 : List (S23))).bind fun y171 => (if y168.length + y171.length < 5864062014805 then (some (y168 ++ y171)) else (none))) else (none))) else (some y165)) = some r := by first | (rw [hy165]; with_reducible exact H) | (have H2_ := (Option.bind_some _ _).symm.trans H; rw [hy165]; with_reducible exact H2_) | (have H2_ := (Option.bind_some _ _).symm.trans H; with_reducible exact H2_) | with_reducible exact H | (rw [hy165]; exact H) | exact H
    have Ny165 := Aside0.mk hy165
    clear hy165
    by_cases c4 : (y165.length : Int) > 64
    · rw [if_pos c4] at H
      have c4b0 : decide (64 < (y165.length : Int)) = true := decide_eq_true c4
      have c4b1 : decide (64 < y165.length) = true := decide_eq_true (by omega)
      clear c4
      obtain ⟨y168, hy168⟩ : ∃ y_ : List (S23), y_ = (([] : List (S23))) := ⟨_, rfl⟩
      replace H : (if 1 ≤ (y165.length : Int) then ((some (y165.drop 1 : List (S23))).bind fun y171 => (if y168.length + y171.length < 5864062014805 then (some (y168 ++ y171)) else (none))) else (none)) = some r := by first | (rw [hy168]; with_reducible exact H) | (have H2_ := (Option.bind_some _ _).symm.trans H; rw [hy168]; with_reducible exact H2_) | (have H2_ := (Option.bind_some _ _).symm.trans H; with_reducible exact H2_) | with_reducible exact H | (rw [hy168]; exact H) | exact H
      have Ny168 := Aside0.mk hy168
      clear hy168
      by_cases c5 : 1 ≤ (y165.length : Int)
      · rw [if_pos c5] at H
        have c5b0 := eq_true c5
        have c5b1 : decide (1 ≤ (y165.length : Int)) = true := decide_eq_true c5
        clear c5
        obtain ⟨y171, hy171⟩ : ∃ y_ : List (S23), y_ = (y165.drop 1) := ⟨_, rfl⟩
        replace H : (if y168.length + y171.length < 5864062014805 then (some (y168 ++ y171)) else (none)) = some r := by first | (rw [hy171]; with_reducible exact H) | (have H2_ := (Option.bind_some _ _).symm.trans H; rw [hy171]; with_reducible exact H2_) | (have H2_ := (Option.bind_some _ _).symm.trans H; with_reducible exact H2_) | with_reducible exact H | (rw [hy171]; exact H) | exact H
        have Ny171 := Aside0.mk hy171
        clear hy171
        by_cases c6 : y168.length + y171.length < 5864062014805
        · rw [if_pos c6] at H
          have LMc6 := Aside0.mk c6
          clear c6
          obtain ⟨y175, hy175⟩ : ∃ y_ : List (S23), y_ = (y168 ++ y171) := ⟨_, rfl⟩
          replace H : (some y175) = some r := by first | (rw [hy175]; with_reducible exact H) | (have H2_ := (Option.bind_some _ _).symm.trans H; rw [hy175]; with_reducible exact H2_) | (have H2_ := (Option.bind_some _ _).symm.trans H; with_reducible exact H2_) | with_reducible exact H | (rw [hy175]; exact H) | exact H
          have Ny175 := Aside0.mk hy175
          clear hy175
          obtain rfl := Option.some.inj H
          go_enter Try.func61, Try.ntmps61
          go_wp2_with (first | ((with_reducible refine gate_dst (N := 3) rfl ?_); refine box_event ?hg (N := 3) ?hd (cs := #[.string a1_0, .int .i64 a1_1]) (t := 23) ?hr ?_; (case hd => rfl); (case hg => rfl); (case hr => first | (go_simp; done) | (go_simp; rfl)); intro gb164 hg w7 hbox hb; have n0_ := Aside0.mk (Kd.R_below (Kd.R_elderB (by (with_reducible repeat (first | apply Kd.R_alloc | apply Kd.R_drewN | apply Kd.R_drew)); exact HO0.out) gb164 (Nat.le_of_eq hg.symm)) hb); have n1_ := Aside0.mk (Kept.below (S := (fun k_ => P0_ k_)) (by repeat (first | (with_reducible first | exact HK.out | apply Kept.alloc | apply Kept.drewN | apply Kept.drew) | exact HK.out)) hb); have n2_ := Aside0.mk (below_step (by repeat (first | (with_reducible first | exact HB.out | apply below_alloc | apply pw_below_drewN | apply below_drew1) | exact HB.out)) hb); have n3_ := Aside0.mk (hbox); have n4_ := Aside0.mk ((by rw [hg]; exact (by first | exact HK.out.1 | exact (show Kept w _ (fun k_ => P0_ k_) from by repeat (first | (with_reducible first | exact HK.out | apply Kept.alloc | apply Kept.drewN | apply Kept.drew) | exact HK.out)).1) : w.heap.size ≤ gb164)); have n5_ := Aside0.mk ((by rw [hg]; exact (below_size (by repeat (first | (with_reducible first | exact HB.out | apply below_alloc | apply pw_below_drewN | apply below_drew1) | exact HB.out))) : w0.heap.size ≤ gb164)); clear HO0; clear HK; clear HB; have HO0 := n0_; have HK := n1_; have HB := n2_; have BK164 := n3_; have GW164 := n4_; have GE164 := n5_; clear n0_ n1_ n2_ n3_ n4_ n5_; clear hb hbox hg; have hcz8_0 : w7.cell? ⟨gb164, 0, none⟩ = some (.string a1_0) := (blk_cell BK164.out 0).trans rfl; have hcz8_1 : w7.cell? ⟨gb164, 1, none⟩ = some (.int .i64 a1_1) := (blk_cell BK164.out 1).trans rfl; have hfz8_0 := blk_frozen BK164.out 0; have hfz8_1 := blk_frozen BK164.out 1) | ((with_reducible refine gate_builtin (b := .append) (xs := #[.tmp 5, .tmp 7]) rfl ?_); at_builtin; refine Kd.R_append k23 (w0 := w0) w0.heap.size rfl (.tmp 5) (.tmp 7) 25 23 (.agg #[(.string ⟨#[]⟩), (.int .i64 0)]) 24 rfl Try.underlying25 info23 rfl (by decide) (by omega) u9000_ l0 (⟨a1_0, a1_1⟩ : S23) [.string a1_0, .int .i64 a1_1] (fun k_ => (P0_ k_ ∨ w.heap.size ≤ k_) ∧ k_ ≠ gb164) (fun _ => False) rfl rfl ?aP (fun _ hk => hk.elim) ?aF ?aO ?aB ?aS ?aL ?_; (case aP => exact k23_mkM _ _ _ (⟨a1_0, a1_1⟩ : S23)); (case aB => exact (by repeat (first | (with_reducible first | exact HB.out | apply below_alloc | apply pw_below_drewN | apply below_drew1 | refine below_set ?_ GE164.out) | exact HB.out))); (case aF => exact (fun k_ hk => ⟨(.inr (Nat.le_trans (by first | exact HK.out.1 | exact (show Kept w _ (fun k_ => P0_ k_) from by repeat (first | (with_reducible first | exact HK.out | apply Kept.alloc | apply Kept.drewN | apply Kept.drew | refine Kept.setCell ?_ (.inr GW164.out) _) | exact HK.out)).1) hk)), Kd.freshB (g := gb164) (o := .cells #[.string a1_0, .int .i64 a1_1] 23 (0, 0)) (by (with_reducible repeat (first | refine blk_drewN ?_ _ | refine blk_drew ?_ | refine blk_alloc ?_ _)); exact BK164.out) k_ hk⟩)); (case aO => exact (by (with_reducible repeat (first | apply Kd.R_alloc | apply Kd.R_drewN | apply Kd.R_drew)); exact HO0.out)); (case aS => exact (below_size (by repeat (first | (with_reducible first | exact HB.out | apply below_alloc | apply pw_below_drewN | apply below_drew1 | refine below_set ?_ GE164.out) | exact HB.out)))); (case aL => have := LMc3.out; omega); intro v166 w9 ho hb hg hat; rw [← Ny165.out] at ho; have n0_ := Aside0.mk (blk_grown (g := gb164) (o := .cells #[.string a1_0, .int .i64 a1_1] 23 (0, 0)) (by (with_reducible repeat (first | refine blk_drewN ?_ _ | refine blk_drew ?_ | refine blk_alloc ?_ _)); exact BK164.out) hg (Kd.R_away HO0.out (fun _ hk => hk.2))); have n1_ := Aside0.mk (hb); have n2_ := Aside0.mk (Kept.of_grown (S := (fun k_ => P0_ k_)) hg (by repeat (first | (with_reducible first | exact HK.out | apply Kept.alloc | apply Kept.drewN | apply Kept.drew | refine Kept.setCell ?_ (.inr GW164.out) _) | exact HK.out)) (fun k_ e_ => (HO0.out.1 k_ e_).1)); have n3_ := Aside0.mk (ho); clear BK164; clear HB; clear HK; clear HO0; have BK164 := n0_; have HB := n1_; have HK := n2_; have HO167 := n3_; clear n0_ n1_ n2_ n3_; clear ho hb hg hat; obtain ⟨Ao10, co10, eo10⟩ := Kd.R_slice HO167.out; subst eo10) | ((with_reducible refine gate_dst (N := 12) rfl ?_); refine Kd.R_lit k23 _ 23 ?hg (N := 12) ?hd (xs := ([] : List (S23))) (inner := []) (ok := fun _ => True) (okp := fun _ => True) ?hr ?hp (fun _ hk => hk) trivial (Below.refl _ _) (Nat.le_refl _) (by simp) ?_; (case hd => rfl); (case hg => rfl); (case hr => first | (go_simp; done) | (go_simp; rfl)); (case hp => exact (Reps.none _ _)); intro v169 w11 ho12 hb hg_ hnew_; clear hg_ hnew_; (first | rw [← Ny168.out] at ho12 | (simp only [Int.reduceToNat] at ho12; rw [← Ny168.out] at ho12)); have n0_ := Aside0.mk (Kd.R_elder' (by (with_reducible repeat (first | apply Kd.R_alloc | apply Kd.R_drewN | apply Kd.R_drew)); exact HO167.out) (Kd.R_base ho12) hb); have n1_ := Aside0.mk (Kd.R_lower (Kd.R_newB (Kd.R_new' (Kd.R_newM (M := fun k_ => (P0_ k_ ∨ w.heap.size ≤ k_)) ho12 (by first | exact HK.out.1 | exact (show Kept w _ (fun k_ => P0_ k_) from by repeat (first | (with_reducible first | exact HK.out | apply Kept.alloc | apply Kept.drewN | apply Kept.drew | refine Kept.setCell ?_ (.inr GW164.out) _) | exact HK.out)).1) (fun k_ h_ => .inr h_)) (Kd.R_lt (by (with_reducible repeat (first | apply Kd.R_alloc | apply Kd.R_drewN | apply Kd.R_drew)); exact HO167.out))) (g := gb164) (o := .cells #[.string a1_0, .int .i64 a1_1] 23 (0, 0)) (by (with_reducible repeat (first | refine blk_drewN ?_ _ | refine blk_drew ?_ | refine blk_alloc ?_ _)); exact BK164.out)) (below_size (by repeat (first | (with_reducible first | exact HB.out | apply below_alloc | apply pw_below_drewN | apply below_drew1 | refine below_set ?_ GE164.out) | exact HB.out)))); have n2_ := Aside0.mk (blk_below (g := gb164) (o := .cells #[.string a1_0, .int .i64 a1_1] 23 (0, 0)) (by (with_reducible repeat (first | refine blk_drewN ?_ _ | refine blk_drew ?_ | refine blk_alloc ?_ _)); exact BK164.out) hb); have n3_ := Aside0.mk (Kept.below (S := (fun k_ => P0_ k_)) (by repeat (first | (with_reducible first | exact HK.out | apply Kept.alloc | apply Kept.drewN | apply Kept.drew | refine Kept.setCell ?_ (.inr GW164.out) _) | exact HK.out)) hb); have n4_ := Aside0.mk (below_step (by repeat (first | (with_reducible first | exact HB.out | apply below_alloc | apply pw_below_drewN | apply below_drew1 | refine below_set ?_ GE164.out) | exact HB.out)) hb); clear HO167; clear BK164; clear HK; clear HB; have HO167 := n0_; have HO170 := n1_; have BK164 := n2_; have HK := n3_; have HB := n4_; clear n0_ n1_ n2_ n3_ n4_; clear hb ho12; have q13 : (1 : Int) ≤ ((y165.length : Int) : Int) := of_decide_eq_true (by first | (with_reducible assumption) | assumption); obtain ⟨i013, hi013, _, hsz13, _⟩ := info_parts info23; have hroom13 : y165.length ≤ co10 := (Kd.R_reads' HO167.out).2.1; have hC13 : Kd.C k23 _ Ao10 y165.length y165 := (Kd.R_reads' HO167.out).2.2; have hcut13 := cut_from (P := Try.prog) 25 23 .i64 Try.underlying25 hi013 2 hsz13 Ao10 y165.length co10 1 (by omega) q13; have hr13 := Kd.C_drop (m := (1 : Int).toNat) (c := co10) hC13 (by omega) hroom13; obtain ⟨A13, hA13⟩ : ∃ A1, A1 = (if co10 = (1 : Int).toNat then Ao10 else (Ao10 : Option Addr).map (·.add ((1 : Int).toNat * 2))) := ⟨_, rfl⟩; obtain ⟨c13, hc13⟩ : ∃ c1, c1 = co10 - (1 : Int).toNat := ⟨_, rfl⟩; have hy13 : y171.length = y165.length - (1 : Int).toNat := (by rw [Ny171.out, List.length_drop] <;> omega); rw [show (y165).drop (1 : Int).toNat = y171 from Ny171.out.symm] at hr13; replace hr13 : Kd.C k23 _ A13 y171.length y171 := (by rw [hA13]; exact hr13); rw [← hy13, ← hA13, ← hc13] at hcut13; have HR174 := Aside0.mk hr13; have HC174 := Aside0.mk (show y171.length ≤ c13 from by rw [hy13, hc13]; exact Nat.sub_le_sub_right hroom13 _); clear hr13 hC13 hroom13 hi013 hsz13 hc13; have KY13 := Aside0.mk hy13; have KA13 := Aside0.mk hA13; clear hy13 hA13; have KL13 := Aside0.mk (show 1 ≤ y165.length from by omega); replace q13 := eq_true q13) | ((with_reducible refine gate_builtin (b := .append) (xs := #[.tmp 12, .tmp 14]) rfl ?_); at_builtin; refine Kd.R_append_rows k23 (w0 := w0) w0.heap.size rfl (.tmp 12) (.tmp 14) 25 23 (.agg #[(.string ⟨#[]⟩), (.int .i64 0)]) 24 rfl Try.underlying25 info23 rfl (by decide) (by omega) v169 y168 y171 _ _ _ (fun k_ => (P0_ k_ ∨ w.heap.size ≤ k_) ∧ some k_ ≠ (.slice Ao10 y165.length co10 : Value).ownBlock ∧ k_ ≠ gb164) (fun _ => False) rfl rfl ?aO ?aR (fun _ _ h => h) (fun _ h => h.elim) ?aF ?aB ?aS ?aL ?_; (case aR => repeat (first | exact (by repeat (first | (with_reducible exact HR174.out) | (with_reducible refine Kd.C_alloc ?_ _) | (with_reducible refine Kd.C_drewN ?_ _) | (with_reducible refine Kd.C_drew ?_) | exact HR174.out)) | (with_reducible refine Kd.C_alloc ?_ _) | (with_reducible refine Kd.C_drewN ?_ _) | (with_reducible refine Kd.C_drew ?_))); (case aB => exact (by repeat (first | (with_reducible first | exact HB.out | apply below_alloc | apply pw_below_drewN | apply below_drew1 | refine below_set ?_ GE164.out) | exact HB.out))); (case aF => exact (fun k_ hk => ⟨(.inr (Nat.le_trans (by first | exact HK.out.1 | exact (show Kept w _ (fun k_ => P0_ k_) from by repeat (first | (with_reducible first | exact HK.out | apply Kept.alloc | apply Kept.drewN | apply Kept.drew | refine Kept.setCell ?_ (.inr GW164.out) _) | exact HK.out)).1) hk)), Kd.fresh' (Kd.R_lt (by (with_reducible repeat (first | apply Kd.R_alloc | apply Kd.R_drewN | apply Kd.R_drew)); exact HO167.out)) k_ hk, Kd.freshB (g := gb164) (o := .cells #[.string a1_0, .int .i64 a1_1] 23 (0, 0)) (by (with_reducible repeat (first | refine blk_drewN ?_ _ | refine blk_drew ?_ | refine blk_alloc ?_ _)); exact BK164.out) k_ hk⟩)); (case aO => exact (by (with_reducible repeat (first | apply Kd.R_alloc | apply Kd.R_drewN | apply Kd.R_drew)); exact Kd.R_mono HO170.out (fun _ hk => ⟨hk.1.1.1, ⟨hk.1.2, hk.2⟩⟩))); (case aS => exact (below_size (by repeat (first | (with_reducible first | exact HB.out | apply below_alloc | apply pw_below_drewN | apply below_drew1 | refine below_set ?_ GE164.out) | exact HB.out)))); (case aL => have := LMc6.out; omega); intro v176 w14 ho hb hg hat; rw [← Ny175.out] at ho; have n0_ := Aside0.mk (blk_grown (g := gb164) (o := .cells #[.string a1_0, .int .i64 a1_1] 23 (0, 0)) (by (with_reducible repeat (first | refine blk_drewN ?_ _ | refine blk_drew ?_ | refine blk_alloc ?_ _)); exact BK164.out) hg (Kd.R_away HO170.out (fun _ hk => hk.2))); have n1_ := Aside0.mk (Kd.R_after (ok := (fun k_ => (P0_ k_ ∨ w.heap.size ≤ k_) ∧ k_ ≠ gb164)) (by (with_reducible repeat (first | apply Kd.R_alloc | apply Kd.R_drewN | apply Kd.R_drew)); exact HO167.out) hg hat); have n2_ := Aside0.mk (hb); have n3_ := Aside0.mk (Kept.of_grown (S := (fun k_ => P0_ k_)) hg (by repeat (first | (with_reducible first | exact HK.out | apply Kept.alloc | apply Kept.drewN | apply Kept.drew | refine Kept.setCell ?_ (.inr GW164.out) _) | exact HK.out)) (fun k_ e_ => (HO170.out.1 k_ e_).1.1.1)); have n4_ := Aside0.mk ((show Kd.C k23 w14 A13 y171.length y171 from by rw [Ny171.out, KA13.out]; exact Kd.C_drop (m := 1) (c := co10) ((Kd.R_reads' (Kd.R_after (ok := (fun k_ => (P0_ k_ ∨ w.heap.size ≤ k_) ∧ k_ ≠ gb164)) (by (with_reducible repeat (first | apply Kd.R_alloc | apply Kd.R_drewN | apply Kd.R_drew)); exact HO167.out) hg hat)).2.2) KL13.out ((Kd.R_reads' (Kd.R_after (ok := (fun k_ => (P0_ k_ ∨ w.heap.size ≤ k_) ∧ k_ ≠ gb164)) (by (with_reducible repeat (first | apply Kd.R_alloc | apply Kd.R_drewN | apply Kd.R_drew)); exact HO167.out) hg hat)).2.1))); have n5_ := Aside0.mk (ho); clear BK164; clear HO167; clear HB; clear HK; clear HR174; clear HO170; have BK164 := n0_; have HO167 := n1_; have HB := n2_; have HK := n3_; have HR174 := n4_; have HO177 := n5_; clear n0_ n1_ n2_ n3_ n4_ n5_; clear ho hb hg hat))
          go_ret
          exact ⟨_, by first | rfl | (simp [errW_none, errW_some] <;> rfl) | (simp [*, errW_none, errW_some] <;> rfl), by (with_reducible repeat (first | apply Kd.R_alloc | apply Kd.R_drewN | apply Kd.R_drew)); exact Kd.R_mono HO177.out (fun _ hk => hk.1), by repeat (first | (with_reducible first | exact HB.out | apply below_alloc | apply pw_below_drewN | apply below_drew1 | refine below_set ?_ GE164.out) | exact HB.out), by repeat (first | (with_reducible first | exact HK.out | apply Kept.alloc | apply Kept.drewN | apply Kept.drew | refine Kept.setCell ?_ (.inr GW164.out) _) | exact HK.out)⟩
        · rw [if_neg c6] at H
          exact absurd H (by simp)
      · rw [if_neg c5] at H
        exact absurd H (by simp)
    · rw [if_neg c4] at H
      have c4b0 : decide (64 < (y165.length : Int)) = false := decide_eq_false c4
      have c4b1 : decide (64 < y165.length) = false := decide_eq_false (by omega)
      clear c4
      obtain rfl := Option.some.inj H
      go_enter Try.func61, Try.ntmps61
      go_wp2_with (first | ((with_reducible refine gate_dst (N := 3) rfl ?_); refine box_event ?hg (N := 3) ?hd (cs := #[.string a1_0, .int .i64 a1_1]) (t := 23) ?hr ?_; (case hd => rfl); (case hg => rfl); (case hr => first | (go_simp; done) | (go_simp; rfl)); intro gb164 hg w15 hbox hb; have n0_ := Aside0.mk (Kd.R_below (Kd.R_elderB (by (with_reducible repeat (first | apply Kd.R_alloc | apply Kd.R_drewN | apply Kd.R_drew)); exact HO0.out) gb164 (Nat.le_of_eq hg.symm)) hb); have n1_ := Aside0.mk (Kept.below (S := (fun k_ => P0_ k_)) (by repeat (first | (with_reducible first | exact HK.out | apply Kept.alloc | apply Kept.drewN | apply Kept.drew) | exact HK.out)) hb); have n2_ := Aside0.mk (below_step (by repeat (first | (with_reducible first | exact HB.out | apply below_alloc | apply pw_below_drewN | apply below_drew1) | exact HB.out)) hb); have n3_ := Aside0.mk (hbox); have n4_ := Aside0.mk ((by rw [hg]; exact (by first | exact HK.out.1 | exact (show Kept w _ (fun k_ => P0_ k_) from by repeat (first | (with_reducible first | exact HK.out | apply Kept.alloc | apply Kept.drewN | apply Kept.drew) | exact HK.out)).1) : w.heap.size ≤ gb164)); have n5_ := Aside0.mk ((by rw [hg]; exact (below_size (by repeat (first | (with_reducible first | exact HB.out | apply below_alloc | apply pw_below_drewN | apply below_drew1) | exact HB.out))) : w0.heap.size ≤ gb164)); clear HO0; clear HK; clear HB; have HO0 := n0_; have HK := n1_; have HB := n2_; have BK164 := n3_; have GW164 := n4_; have GE164 := n5_; clear n0_ n1_ n2_ n3_ n4_ n5_; clear hb hbox hg; have hcz16_0 : w15.cell? ⟨gb164, 0, none⟩ = some (.string a1_0) := (blk_cell BK164.out 0).trans rfl; have hcz16_1 : w15.cell? ⟨gb164, 1, none⟩ = some (.int .i64 a1_1) := (blk_cell BK164.out 1).trans rfl; have hfz16_0 := blk_frozen BK164.out 0; have hfz16_1 := blk_frozen BK164.out 1) | ((with_reducible refine gate_builtin (b := .append) (xs := #[.tmp 5, .tmp 7]) rfl ?_); at_builtin; refine Kd.R_append k23 (w0 := w0) w0.heap.size rfl (.tmp 5) (.tmp 7) 25 23 (.agg #[(.string ⟨#[]⟩), (.int .i64 0)]) 24 rfl Try.underlying25 info23 rfl (by decide) (by omega) u9000_ l0 (⟨a1_0, a1_1⟩ : S23) [.string a1_0, .int .i64 a1_1] (fun k_ => (P0_ k_ ∨ w.heap.size ≤ k_) ∧ k_ ≠ gb164) (fun _ => False) rfl rfl ?aP (fun _ hk => hk.elim) ?aF ?aO ?aB ?aS ?aL ?_; (case aP => exact k23_mkM _ _ _ (⟨a1_0, a1_1⟩ : S23)); (case aB => exact (by repeat (first | (with_reducible first | exact HB.out | apply below_alloc | apply pw_below_drewN | apply below_drew1 | refine below_set ?_ GE164.out) | exact HB.out))); (case aF => exact (fun k_ hk => ⟨(.inr (Nat.le_trans (by first | exact HK.out.1 | exact (show Kept w _ (fun k_ => P0_ k_) from by repeat (first | (with_reducible first | exact HK.out | apply Kept.alloc | apply Kept.drewN | apply Kept.drew | refine Kept.setCell ?_ (.inr GW164.out) _) | exact HK.out)).1) hk)), Kd.freshB (g := gb164) (o := .cells #[.string a1_0, .int .i64 a1_1] 23 (0, 0)) (by (with_reducible repeat (first | refine blk_drewN ?_ _ | refine blk_drew ?_ | refine blk_alloc ?_ _)); exact BK164.out) k_ hk⟩)); (case aO => exact (by (with_reducible repeat (first | apply Kd.R_alloc | apply Kd.R_drewN | apply Kd.R_drew)); exact HO0.out)); (case aS => exact (below_size (by repeat (first | (with_reducible first | exact HB.out | apply below_alloc | apply pw_below_drewN | apply below_drew1 | refine below_set ?_ GE164.out) | exact HB.out)))); (case aL => have := LMc3.out; omega); intro v166 w17 ho hb hg hat; rw [← Ny165.out] at ho; have n0_ := Aside0.mk (blk_grown (g := gb164) (o := .cells #[.string a1_0, .int .i64 a1_1] 23 (0, 0)) (by (with_reducible repeat (first | refine blk_drewN ?_ _ | refine blk_drew ?_ | refine blk_alloc ?_ _)); exact BK164.out) hg (Kd.R_away HO0.out (fun _ hk => hk.2))); have n1_ := Aside0.mk (hb); have n2_ := Aside0.mk (Kept.of_grown (S := (fun k_ => P0_ k_)) hg (by repeat (first | (with_reducible first | exact HK.out | apply Kept.alloc | apply Kept.drewN | apply Kept.drew | refine Kept.setCell ?_ (.inr GW164.out) _) | exact HK.out)) (fun k_ e_ => (HO0.out.1 k_ e_).1)); have n3_ := Aside0.mk (ho); clear BK164; clear HB; clear HK; clear HO0; have BK164 := n0_; have HB := n1_; have HK := n2_; have HO167 := n3_; clear n0_ n1_ n2_ n3_; clear ho hb hg hat; obtain ⟨Ao18, co18, eo18⟩ := Kd.R_slice HO167.out; subst eo18))
      go_ret
      exact ⟨_, by first | rfl | (simp [errW_none, errW_some] <;> rfl) | (simp [*, errW_none, errW_some] <;> rfl), by (with_reducible repeat (first | apply Kd.R_alloc | apply Kd.R_drewN | apply Kd.R_drew)); exact Kd.R_mono HO167.out (fun _ hk => hk.1), by repeat (first | (with_reducible first | exact HB.out | apply below_alloc | apply pw_below_drewN | apply below_drew1 | refine below_set ?_ GE164.out) | exact HB.out), by repeat (first | (with_reducible first | exact HK.out | apply Kept.alloc | apply Kept.drewN | apply Kept.drew | refine Kept.setCell ?_ (.inr GW164.out) _) | exact HK.out)⟩
  · rw [if_neg c3] at H
    exact absurd H (by simp)

-- NOT PRINTED: function 62 (editor_worker_clamp)

-- NOT PRINTED: function 59 (editor_worker_set)

-- NOT PRINTED: function 37 (editor_worker_insert)

-- NOT PRINTED: function 38 (editor_worker_remove)

def editor_kills.f (a0 : Int) : Option (Bool) := if a0 = 11 then (some true) else (if a0 = 12 then (some true) else (if a0 = 13 then (some true) else (if a0 = 14 then (some true) else (some false))))
set_option maxHeartbeats 8000000 in
set_option maxRecDepth 100000 in
theorem editor_kills.calls (a0 : Int) (r : Bool) (w : World) (h : editor_kills.f a0 = some r) :
    Calls Try.prog 60 #[.int .i64 a0] w fun e w' => e = .returned (.bool r) ∧ Drawn0 w w' := by
  have H : (if a0 = 11 then (some true) else (if a0 = 12 then (some true) else (if a0 = 13 then (some true) else (if a0 = 14 then (some true) else (some false))))) = some r := h
  clear h
  by_cases c2 : a0 = 11
  · rw [if_pos c2] at H
    have c2b0 : (a0 == 11) = true := beq_iff_eq.mpr c2
    have c2b1 : (a0 != 11) = false := bne_eq_false_iff_eq.mpr c2
    clear c2
    obtain rfl := Option.some.inj H
    go_enter Try.func60, Try.ntmps60
    go_wp2
    go_ret
    exact ⟨by first | rfl | (simp; done) | (simp [*]; done), by repeat (first | exact Drawn0.refl _ | apply Drawn0.step)⟩
  · rw [if_neg c2] at H
    have c2b0 : (a0 == 11) = false := beq_eq_false_iff_ne.mpr c2
    have c2b1 : (a0 != 11) = true := bne_iff_ne.mpr c2
    by_cases c3 : a0 = 12
    · rw [if_pos c3] at H
      have c3b0 : (a0 == 12) = true := beq_iff_eq.mpr c3
      have c3b1 : (a0 != 12) = false := bne_eq_false_iff_eq.mpr c3
      clear c3
      obtain rfl := Option.some.inj H
      go_enter Try.func60, Try.ntmps60
      go_wp2
      go_ret
      exact ⟨by first | rfl | (simp; done) | (simp [*]; done), by repeat (first | exact Drawn0.refl _ | apply Drawn0.step)⟩
    · rw [if_neg c3] at H
      have c3b0 : (a0 == 12) = false := beq_eq_false_iff_ne.mpr c3
      have c3b1 : (a0 != 12) = true := bne_iff_ne.mpr c3
      by_cases c4 : a0 = 13
      · rw [if_pos c4] at H
        have c4b0 : (a0 == 13) = true := beq_iff_eq.mpr c4
        have c4b1 : (a0 != 13) = false := bne_eq_false_iff_eq.mpr c4
        clear c4
        obtain rfl := Option.some.inj H
        go_enter Try.func60, Try.ntmps60
        go_wp2
        go_ret
        exact ⟨by first | rfl | (simp; done) | (simp [*]; done), by repeat (first | exact Drawn0.refl _ | apply Drawn0.step)⟩
      · rw [if_neg c4] at H
        have c4b0 : (a0 == 13) = false := beq_eq_false_iff_ne.mpr c4
        have c4b1 : (a0 != 13) = true := bne_iff_ne.mpr c4
        by_cases c5 : a0 = 14
        · rw [if_pos c5] at H
          have c5b0 : (a0 == 14) = true := beq_iff_eq.mpr c5
          have c5b1 : (a0 != 14) = false := bne_eq_false_iff_eq.mpr c5
          clear c5
          obtain rfl := Option.some.inj H
          go_enter Try.func60, Try.ntmps60
          go_wp2
          go_ret
          exact ⟨by first | rfl | (simp; done) | (simp [*]; done), by repeat (first | exact Drawn0.refl _ | apply Drawn0.step)⟩
        · rw [if_neg c5] at H
          have c5b0 : (a0 == 14) = false := beq_eq_false_iff_ne.mpr c5
          have c5b1 : (a0 != 14) = true := bne_iff_ne.mpr c5
          obtain rfl := Option.some.inj H
          go_enter Try.func60, Try.ntmps60
          go_wp2
          go_ret
          exact ⟨by first | rfl | (simp; done) | (simp [*]; done), by repeat (first | exact Drawn0.refl _ | apply Drawn0.step)⟩

-- NOT PRINTED: function 39 (editor_worker_kill)

-- NOT PRINTED: function 40 (editor_worker_rotate)

-- NOT PRINTED: function 41 (editor_worker_restore)

-- NOT PRINTED: function 42 (editor_worker_transpose)

-- NOT PRINTED: function 43 (editor_worker_line)

-- NOT PRINTED: function 44 (editor_worker_cased)

-- NOT PRINTED: function 29 (editor_worker_change)

def stringslite_HasPrefix.f (a0 : ByteArray) (a1 : ByteArray) : Option (Bool) := if (a0.size : Int) ≥ (a1.size : Int) then (if 0 ≤ (a1.size : Int) then (if (a1.size : Int) ≤ (a0.size : Int) then (some ((a0.extract 0 ((a1.size : Int) : Int).toNat).toList == a1.toList)) else (none)) else (none)) else (some false)
set_option maxHeartbeats 8000000 in
set_option maxRecDepth 100000 in
theorem stringslite_HasPrefix.calls (a0 : ByteArray) (a1 : ByteArray) (r : Bool) (w : World) (h : stringslite_HasPrefix.f a0 a1 = some r) :
    Calls Try.prog 68 #[.string a0, .string a1] w fun e w' => e = .returned (.bool r) ∧ Drawn0 w w' := by
  have H : (if (a0.size : Int) ≥ (a1.size : Int) then (if 0 ≤ (a1.size : Int) then (if (a1.size : Int) ≤ (a0.size : Int) then (some ((a0.extract 0 ((a1.size : Int) : Int).toNat).toList == a1.toList)) else (none)) else (none)) else (some false)) = some r := h
  clear h
  by_cases c3 : (a0.size : Int) ≥ (a1.size : Int)
  · rw [if_pos c3] at H
    have c3b0 : decide ((a1.size : Int) ≤ (a0.size : Int)) = true := decide_eq_true c3
    have c3b1 : decide (a1.size ≤ a0.size) = true := decide_eq_true (Int.ofNat_le.mp c3)
    clear c3
    by_cases c4 : 0 ≤ (a1.size : Int)
    · rw [if_pos c4] at H
      have c4b0 := eq_true c4
      have c4b1 : decide (0 ≤ (a1.size : Int)) = true := decide_eq_true c4
      clear c4
      by_cases c5 : (a1.size : Int) ≤ (a0.size : Int)
      · rw [if_pos c5] at H
        have c5b0 := eq_true c5
        have c5b1 : decide ((a1.size : Int) ≤ (a0.size : Int)) = true := decide_eq_true c5
        clear c5
        obtain rfl := Option.some.inj H
        go_enter Try.func68, Try.ntmps68
        go_wp2
        go_ret
        exact ⟨by first | rfl | (simp; done) | (simp [*]; done), by repeat (first | exact Drawn0.refl _ | apply Drawn0.step)⟩
      · rw [if_neg c5] at H
        exact absurd H (by simp)
    · rw [if_neg c4] at H
      exact absurd H (by simp)
  · rw [if_neg c3] at H
    have c3b0 : decide ((a1.size : Int) ≤ (a0.size : Int)) = false := decide_eq_false c3
    have c3b1 : decide (a1.size ≤ a0.size) = false := decide_eq_false (fun h => c3 (Int.ofNat_le.mpr h))
    clear c3
    obtain rfl := Option.some.inj H
    go_enter Try.func68, Try.ntmps68
    go_wp2
    go_ret
    exact ⟨by first | rfl | (simp; done) | (simp [*]; done), by repeat (first | exact Drawn0.refl _ | apply Drawn0.step)⟩

def strings_HasPrefix.f (a0 : ByteArray) (a1 : ByteArray) : Option (Bool) := (stringslite_HasPrefix.f a0 a1).bind fun t186 => (some t186)
set_option maxHeartbeats 8000000 in
set_option maxRecDepth 100000 in
theorem strings_HasPrefix.calls (a0 : ByteArray) (a1 : ByteArray) (r : Bool) (w : World) (h : strings_HasPrefix.f a0 a1 = some r) :
    Calls Try.prog 56 #[.string a0, .string a1] w fun e w' => e = .returned (.bool r) ∧ Drawn0 w w' := by
  have H : ((stringslite_HasPrefix.f a0 a1).bind fun t186 => (some t186)) = some r := h
  clear h
  replace H := Option.bind_eq_some_iff.mp H
  obtain ⟨t186, A30, H⟩ := H
  replace H : (some t186) = some r := H
  have A3 := Aside0.mk A30
  clear A30
  obtain rfl := Option.some.inj H
  go_enter Try.func56, Try.ntmps56
  go_wp2_with (first | ((with_reducible refine gate_callee (f := 68) rfl ?_); refine goesL_ (some 7) rfl rfl Try.func68 (by kernel_rfl) rfl #[.string a0, .string a1] rfl (by (try simp only [List.map_toArray, List.map_cons, List.map_nil]); first | done | rfl | (simp only [List.length_drop, List.length_take]; rfl)) ?_; (with_reducible refine (stringslite_HasPrefix.calls a0 a1 t186 _ A3.out).mono ?_); rintro e w' ⟨rfl, ⟨nd, rfl⟩⟩; refine ⟨_, rfl, ?_⟩))
  go_ret
  exact ⟨by first | rfl | (simp; done) | (simp [*]; done), by repeat (first | exact Drawn0.refl _ | apply Drawn0.step)⟩

end Go.Proofs.Ytlbbjdggebgabaa.P
end

section
/- The editor's worker: set. -/
namespace Go.Proofs.Ytlbbjdggebgabaa.P
open Go.RowKit Go.Proofs.YtlbbjdggebgabaaW.PrintWords Go.Proofs.YtlbbjdggebgabaaW.PrintLast Go.Proofs.YtlbbjdggebgabaaW.PrintMore
set_option linter.unusedVariables false
set_option linter.unusedSimpArgs false

def pushS (l : List S23) (x : S23) : List S23 := if (l ++ [x]).length > 64 then (l ++ [x]).drop 1 else l ++ [x]
def setS (s : St) (action : Int) (t : ByteArray) (p : Int) : St × Bool :=
  if (t.size : Int) > 4096 then (s, false)
  else if t.toList = s.text.toList then ({ s with text := t, pos := p }, true)
  else (clampS { s with text := t, pos := p, undo := if action = 1 ∧ s.last = 1 then s.undo else pushS s.undo ⟨s.text, s.pos⟩, redo := [] }, true)
theorem push_f (l : List S23) (a : ByteArray) (b : Int) (h : l.length < 1000000) : editor_push.f l a b = some (pushS l ⟨a, b⟩) := by
  unfold editor_push.f pushS
  have : ((l ++ [(⟨a, b⟩ : S23)]).length : Int) = ((l ++ [(⟨a, b⟩ : S23)]).length : Nat) := rfl
  have hl : (l ++ [(⟨a, b⟩ : S23)]).length = l.length + 1 := by simp
  rw [if_pos (by omega), Option.bind_some]
  by_cases hc : (l ++ [(⟨a, b⟩ : S23)]).length > 64
  · rw [if_pos hc, if_pos (by omega), Option.bind_some, if_pos (by omega), Option.bind_some, if_pos (by simp; omega), List.nil_append]
  · rw [if_neg hc, if_neg (by omega)]

set_option maxHeartbeats 4000000 in
set_option maxRecDepth 100000 in
theorem editor_worker_set.calls (w0 w : World) (g : Nat) (s : St) (action : Int) (t : ByteArray) (p : Int) (hI : IsW w0 w g s) (hu : s.undo.length < 1000000) (hB : Below w0.heap.size w0 w) :
    Calls Try.prog 59 #[.pointer (some ⟨g, 0, none⟩), .int .i64 action, .string t, .int .i64 p] w fun e w' => e = .returned (.bool (setS s action t p).2) ∧ IsW w0 w' g (setS s action t p).1 ∧ Below w0.heap.size w0 w' := by
  obtain ⟨vk, vu, vr, vl, hb, hg, hR⟩ := hI
  obtain ⟨c0, c1, c2, c3, c4, c5, c6, c7, c8, c9, c10, c11⟩ := hb.cells
  obtain ⟨f0, f1, f2, f3, f4, f5, f6, f7, f8, f9⟩ := hb.frozen
  have hu23 := Try.underlying23
  have hn1 : ¬ g = w.heap.size := by have := hb.lt; omega
  have hn2 : ¬ w.heap.size = g := by have := hb.lt; omega
  have hB1 : Blk (w.alloc (.cells #[.string s.text, .int .i64 s.pos] 23)) g s vk vu vr vl := hb.below (below_alloc (Below.refl _ _) _)
  obtain ⟨d0, d1, d2, d3, d4, d5, d6, d7, d8, d9, d10, d11⟩ := hB1.cells
  obtain ⟨e0, e1, e2, e3, e4, e5, e6, e7, e8, e9⟩ := hB1.frozen
  have HI1 := Aside0.mk hB1
  clear hB1
  obtain ⟨w2, hw2⟩ : ∃ x, x = ((w.alloc (.cells #[.string s.text, .int .i64 s.pos] 23)).setCell ⟨g, 0, none⟩ (.string t)).setCell ⟨g, 1, none⟩ (.int .i64 p) := ⟨_, rfl⟩
  have hW2 := Aside0.mk hw2
  have HI2 : Aside0 (Blk w2 g { s with text := t, pos := p } vk vu vr vl) := ⟨by rw [hw2]; exact (HI1.out.set0 t).set1 p⟩
  have HR1 : Rows w0 (w.alloc (.cells #[.string s.text, .int .i64 s.pos] 23)) s vk vu vr vl := hR.below (below_alloc (Below.refl _ _) _)
  have HR2 : Aside0 (Rows w0 w2 s vk vu vr vl) := ⟨by rw [hw2]; exact (HR1.set HI1.out 0 _).set (HI1.out.set0 t) 1 _⟩
  have HB2 : Aside0 (Below w0.heap.size w0 w2) := ⟨by rw [hw2]; exact below_set (below_set (below_alloc hB _) hg) hg⟩
  clear hw2 HR1
  have HI := Aside0.mk hb
  have HR := Aside0.mk hR
  have HB := Aside0.mk hB
  clear hb hR hB
  unfold setS
  by_cases h1 : (t.size : Int) > 4096
  · rw [if_pos h1]
    have h1b : decide (4096 < (t.size : Int)) = true := decide_eq_true h1
    have h1c : decide (4096 < t.size) = true := decide_eq_true (by omega)
    clear h1
    go_enter Try.func59, Try.ntmps59
    go_wp2
    go_ret
    exact ⟨rfl, ⟨vk, vu, vr, vl, HI.out, hg, HR.out⟩, HB.out⟩
  · rw [if_neg h1]
    have h1b : decide (4096 < (t.size : Int)) = false := decide_eq_false h1
    have h1c : decide (4096 < t.size) = false := decide_eq_false (by omega)
    clear h1
    by_cases h2 : t.toList = s.text.toList
    · rw [if_pos h2]
      have h2b : (t.toList == s.text.toList) = true := beq_iff_eq.mpr h2
      clear h2
      go_enter Try.func59, Try.ntmps59
      go_wp2
      go_ret
      rw [← hW2.out]
      exact ⟨rfl, ⟨vk, vu, vr, vl, HI2.out, hg, HR2.out.scal rfl rfl rfl rfl⟩, HB2.out⟩
    · rw [if_neg h2]
      have h2b : (t.toList == s.text.toList) = false := beq_eq_false_iff_ne.mpr h2
      clear h2
      have tail : ∀ (w3 : World) (l : List S23) (v : Value), Blk w3 g { s with text := t, pos := p, undo := l } vk v vr vl → Below w0.heap.size w0 w3 → Kd.R Kd.string 9 w3 w0.heap.size (fun _ => True) vk s.kills → Kd.R k23 23 w3 w0.heap.size (fun _ => True) v l →
          Blk (w3.setCell ⟨g, 5, none⟩ (.slice none 0 0)) g { s with text := t, pos := p, undo := l, redo := [] } vk v (.slice none 0 0) vl ∧ Below w0.heap.size w0 (w3.setCell ⟨g, 5, none⟩ (.slice none 0 0)) ∧
          ∀ w4, Blk w4 g (clampS { s with text := t, pos := p, undo := l, redo := [] }) vk v (.slice none 0 0) vl → KeepBut (w3.setCell ⟨g, 5, none⟩ (.slice none 0 0)) w4 g none → IsW w0 w4 g (clampS { s with text := t, pos := p, undo := l, redo := [] }) := by
        intro w3 l v k1 k2 k3 k4
        refine ⟨k1.set5 _ _, below_set k2 hg, fun w4 k5 k6 => ⟨vk, v, .slice none 0 0, vl, k5, hg, ?_, ?_, Kd.R_nil _ _ _ _ _, HR.out.2.2.2⟩⟩
        · have hne := Kd.R_ne k3 (k1 : w3.heap[g]? = _) (by decide)
          exact Kd.R_keep (Kd.R_far1 (Kd.R_set k3 k1 (by rw [E_string]; decide) 5 _) rfl hne) k6 (fun _ h => h.2) |> fun h => Kd.R_mono h (fun _ h => trivial)
        · have hne := Kd.R_ne k4 (k1 : w3.heap[g]? = _) (by decide)
          exact Kd.R_keep (Kd.R_far1 (Kd.R_set k4 k1 (by rw [E_k23]; decide) 5 _) rfl hne) k6 (fun _ h => h.2) |> fun h => Kd.R_mono h (fun _ h => by simp [Value.ownBlock])
      have hE1 : ∀ q, q ∈ (9 : Nat) :: (Kd.string).E → q ≠ 23 := by rw [E_string]; decide
      by_cases hp : action = 1 ∧ s.last = 1
      · rw [if_pos hp]
        have h3b : (action != 1) = false := bne_eq_false_iff_eq.mpr hp.1
        have h4b : (s.last != 1) = false := bne_eq_false_iff_eq.mpr hp.2
        clear hp
        obtain ⟨z1, z2, z3⟩ := tail w2 s.undo vu HI2.out HB2.out HR2.out.1 (Kd.R_mono HR2.out.2.1 (fun _ _ => trivial))
        have y5 := HI2.out.cells.2.2.2.2.2.1
        have y6 := HI2.out.frozen.2.2.2.2.2.1
        rw [hW2.out] at y5 y6 z1 z2 z3
        go_enter Try.func59, Try.ntmps59
        go_wp2_with (first | (go_at_call 62; refine (editor_worker_clamp.calls w0 _ g _ vk vu (.slice none 0 0) vl z1 hg z2).mono ?_; rintro e w5 ⟨rfl, h5, h6, h7⟩))
        go_ret
        exact ⟨rfl, z3 w5 h5 h7, h6⟩
      · rw [if_neg hp]
        have hp2 : ((action != 1) = true ∧ True) ∨ ((action != 1) = false ∧ (s.last != 1) = true) := by
          by_cases h3 : action = 1
          · exact .inr ⟨bne_eq_false_iff_eq.mpr h3, bne_iff_ne.mpr (fun h => hp ⟨h3, h⟩)⟩
          · exact .inl ⟨bne_iff_ne.mpr h3, trivial⟩
        clear hp
        have x1 : w2.cell? ⟨g, 4, none⟩ = some vu := HI2.out.cells.2.2.2.2.1
        have x2 : w2.cell? ⟨w.heap.size, 0, none⟩ = some (.string s.text) := by rw [hW2.out]; go_simp
        have x3 : w2.cell? ⟨w.heap.size, 1, none⟩ = some (.int .i64 s.pos) := by rw [hW2.out]; go_simp
        have hRu := Aside0.mk (Kd.R_tight rfl HR2.out.2.1)
        have hne := Kd.R_ne hRu.out HI2.out (by decide)
        rcases hp2 with ⟨h3b, h4b⟩ | ⟨h3b, h4b⟩
        all_goals
          go_enter Try.func59, Try.ntmps59
          go_wp2
          rw [← hW2.out]
          go_region_with (first | (go_at_call 61; refine (editor_push.calls (fun k => some k = vu.ownBlock) vu s.undo s.text s.pos _ w0 w2.drew (below_drew HB2.out) (Kd.R_drew hRu.out) (push_f s.undo s.text s.pos hu)).mono ?_; rintro e w4 ⟨v0, rfl, hr, hb, hk⟩; have HI4 := Aside0.mk (show Blk w4 g _ _ _ _ _ from blk_kept HI2.out hk (fun h => hne h)); obtain ⟨Av, cv, rfl⟩ := Kd.R_slice hr; have y1 := HI4.out.cells.2.2.2.2.1; have y2 := HI4.out.frozen.2.2.2.2.1))
          all_goals
            have k1 := HI4.out.set4 (pushS s.undo ⟨s.text, s.pos⟩) (.slice Av (pushS s.undo ⟨s.text, s.pos⟩).length cv)
            obtain ⟨z1, z2, z3⟩ := tail _ _ _ k1 (below_set hb hg) (Kd.R_mono (Kd.R_set (Kd.R_kept (Kd.R_apartR HR2.out.1 HR2.out.2.1 hE1) hk (fun k h h2 => h.2 h2)) HI4.out (by rw [E_string]; decide) 4 _) (fun _ _ => trivial)) (Kd.R_mono (Kd.R_set hr HI4.out (by rw [E_k23]; decide) 4 _) (fun _ _ => trivial))
            have y5 := k1.cells.2.2.2.2.2.1
            have y6 := k1.frozen.2.2.2.2.2.1
            go_wp2_with (first | (go_at_call 62; refine (editor_worker_clamp.calls w0 _ g _ vk _ (.slice none 0 0) vl z1 hg z2).mono ?_; rintro e w5 ⟨rfl, h5, h6, h7⟩))
            go_ret
            exact ⟨rfl, z3 w5 h5 h7, h6⟩
end Go.Proofs.Ytlbbjdggebgabaa.P
end

section
/- The editor's worker: insert and remove. -/
namespace Go.Proofs.Ytlbbjdggebgabaa.P
open Go.RowKit Go.Proofs.YtlbbjdggebgabaaW.PrintWords Go.Proofs.YtlbbjdggebgabaaW.PrintLast Go.Proofs.YtlbbjdggebgabaaW.PrintMore
set_option linter.unusedVariables false
set_option linter.unusedSimpArgs false

def spliced (t x : ByteArray) (i j : Int) : ByteArray := (t.extract 0 i.toNat ++ x) ++ t.extract j.toNat t.size
def insertS (s : St) (action : Int) (x : ByteArray) : St := (setS s action (spliced s.text x s.pos s.pos) (s.pos + (x.size : Int))).1
def removeS (s : St) (action i j : Int) : St := if i < j then (setS s action (s.text.extract 0 i.toNat ++ s.text.extract j.toNat s.text.size) i).1 else s

set_option maxHeartbeats 4000000 in
set_option maxRecDepth 100000 in
theorem editor_worker_insert.calls (w0 w : World) (g : Nat) (s : St) (action : Int) (x : ByteArray) (hI : IsW w0 w g s) (hu : s.undo.length < 1000000) (h0 : 0 ≤ s.pos) (h1 : s.pos ≤ s.text.size) (hs : s.text.size ≤ 1000000) (hx : x.size ≤ 1000000000000000000) (hB : Below w0.heap.size w0 w) :
    Calls Try.prog 37 #[.pointer (some ⟨g, 0, none⟩), .int .i64 action, .string x] w fun e w' => e = .returned (.tuple #[]) ∧ IsW w0 w' g (insertS s action x) ∧ Below w0.heap.size w0 w' := by
  obtain ⟨vk, vu, vr, vl, hb, hg, hR⟩ := id hI
  obtain ⟨c0, c1, c2, c3, c4, c5, c6, c7, c8, c9, c10, c11⟩ := hb.cells
  have HI := Aside0.mk hI
  have HB := Aside0.mk hB
  clear hR
  have q1 : s.pos.toNat + x.size ≤ 9223372036854775807 := by omega
  have q2 : s.pos.toNat + x.size + (s.text.size - s.pos.toNat) ≤ 9223372036854775807 := by omega
  clear hI hB
  go_enter Try.func37, Try.ntmps37
  go_wp2
  go_region
  all_goals go_wp2
  all_goals go_region_with (first | (go_at_call 59; refine (editor_worker_set.calls w0 w.drew.drew g s action _ _ (HI.out.below (below_drew (below_drew (Below.refl _ _)))) hu (below_drew (below_drew HB.out))).mono ?_; rintro e w4 ⟨rfl, h5, h6⟩))
  all_goals (go_end0; exact ⟨rfl, h5, h6⟩)

set_option maxHeartbeats 4000000 in
set_option maxRecDepth 100000 in
theorem editor_worker_remove.calls (w0 w : World) (g : Nat) (s : St) (action i j : Int) (hI : IsW w0 w g s) (hu : s.undo.length < 1000000) (h0 : 0 ≤ i) (h1 : i ≤ s.text.size) (h2 : 0 ≤ j) (h3 : j ≤ s.text.size) (hs : s.text.size ≤ 1000000) (hB : Below w0.heap.size w0 w) :
    Calls Try.prog 38 #[.pointer (some ⟨g, 0, none⟩), .int .i64 action, .int .i64 i, .int .i64 j] w fun e w' => e = .returned (.tuple #[]) ∧ IsW w0 w' g (removeS s action i j) ∧ Below w0.heap.size w0 w' := by
  obtain ⟨vk, vu, vr, vl, hb, hg, hR⟩ := id hI
  obtain ⟨c0, c1, c2, c3, c4, c5, c6, c7, c8, c9, c10, c11⟩ := hb.cells
  have HI := Aside0.mk hI
  have HB := Aside0.mk hB
  clear hR hI hB
  unfold removeS
  by_cases hc : i < j
  · rw [if_pos hc]
    have q1 : i.toNat + (s.text.size - j.toNat) ≤ 9223372036854775807 := by omega
    go_enter Try.func38, Try.ntmps38
    go_wp2
    go_region_with (first | (go_at_call 59; refine (editor_worker_set.calls w0 w.drew g s action _ _ (HI.out.below (below_drew (Below.refl _ _))) hu (below_drew HB.out)).mono ?_; rintro e w4 ⟨rfl, h5, h6⟩))
    all_goals (go_end0; exact ⟨rfl, h5, h6⟩)
  · rw [if_neg hc]
    go_enter Try.func38, Try.ntmps38
    go_wp2
    go_end0
    exact ⟨rfl, HI.out, HB.out⟩
end Go.Proofs.Ytlbbjdggebgabaa.P
end

section
/- The editor's worker: kill. -/
namespace Go.Proofs.Ytlbbjdggebgabaa.P
open Go.RowKit Go.Proofs.YtlbbjdggebgabaaW.PrintWords Go.Proofs.YtlbbjdggebgabaaW.PrintLast Go.Proofs.YtlbbjdggebgabaaW.PrintMore
set_option linter.unusedVariables false
set_option linter.unusedSimpArgs false

def killsB (a : Int) : Bool := a == 11 || a == 12 || a == 13 || a == 14
theorem kills_f (a : Int) : editor_kills.f a = some (killsB a) := by
  unfold editor_kills.f killsB
  repeat' split
  all_goals simp_all
theorem setS_keep (s : St) (a : Int) (t : ByteArray) (p : Int) : (setS s a t p).1.kills = s.kills ∧ (setS s a t p).1.last = s.last ∧ (setS s a t p).1.lines = s.lines ∧ (setS s a t p).1.line = s.line ∧ (setS s a t p).1.keys = s.keys ∧ (setS s a t p).1.saved = s.saved ∧ (setS s a t p).1.off = s.off := by
  unfold setS clampS
  repeat' split
  all_goals simp
theorem removeS_keep (s : St) (a i j : Int) : (removeS s a i j).kills = s.kills ∧ (removeS s a i j).last = s.last := by
  unfold removeS
  split
  · exact ⟨(setS_keep s a _ _).1, (setS_keep s a _ _).2.1⟩
  · exact ⟨rfl, rfl⟩
def lastOf (l : List ByteArray) : ByteArray := l.getLastD ByteArray.empty
def joins (s : St) (x : ByteArray) : Bool := killsB s.last && !s.kills.isEmpty && decide (((lastOf s.kills).size : Int) + (x.size : Int) ≤ 4096)
def pushK (l : List ByteArray) (x : ByteArray) : List ByteArray := if (l ++ [x]).length > 16 then (l ++ [x]).drop 1 else l ++ [x]
def killedS (s : St) (action : Int) (x : ByteArray) : List ByteArray :=
  if joins s x then s.kills.dropLast ++ [if action = 12 ∨ action = 14 then x ++ lastOf s.kills else lastOf s.kills ++ x] else pushK s.kills x
def killS (s : St) (action i j : Int) : St :=
  if i < j then { removeS s action i j with kills := killedS s action (s.text.extract i.toNat j.toNat) } else s

theorem last_mem {l : List ByteArray} (h : 0 < l.length) : lastOf l ∈ l := by
  rcases List.eq_nil_or_concat l with rfl | ⟨a, b, rfl⟩
  · simp at h
  · simp [lastOf]
theorem rdOf_last (l : List ByteArray) (hp : 0 < l.length) : rdOf ByteArray.empty l ((l.length : Int) - 1) = lastOf l := by
  have e : ((l.length : Int) - 1).toNat = l.length - 1 := by omega
  unfold rdOf lastOf
  rw [e]
  rcases List.eq_nil_or_concat l with rfl | ⟨a, b, rfl⟩
  · simp at hp
  · simp
theorem last_cell {w : World} {base gk n1 : Nat} {ok : Nat → Prop} {l : List ByteArray} (h : Kd.R Kd.string 9 w base ok (.slice (some ⟨gk, 0, none⟩) l.length n1) l) (hp : 0 < l.length) :
    w.cell? ⟨gk, l.length - 1, none⟩ = some (.string (lastOf l)) ∧ w.frozen? ⟨gk, l.length - 1, none⟩ = false := by
  have e : ((l.length : Int) - 1).toNat = l.length - 1 := by omega
  have := Kd.R_cell ByteArray.empty h ((l.length : Int) - 1) (by omega) (by omega)
  rw [e, rdOf_last l hp] at this
  exact this
/-- What the worker's block and lists are behind an append to its kills. -/
theorem grown_kills {w0 w w1 : World} {g : Nat} {s : St} {vk vu vr vl v1 : Value} {l : List ByteArray} (hI : Blk w g s vk vu vr vl) (hR : Rows w0 w s vk vu vr vl) (h1 : Kd.R Kd.string 9 w1 w0.heap.size (fun _ => True) v1 l) (hg : w.grownBy w1 vk.ownBlock) :
    Blk w1 g s vk vu vr vl ∧ Rows w0 w1 { s with kills := l } v1 vu vr vl := by
  have hne := Kd.R_ne hR.1 hI (by decide)
  exact ⟨blk_grown hI hg hne, h1, Kd.R_over hR.2.1 hR.1 (by rw [E_k23]; decide) hg, Kd.R_over hR.2.2.1 hR.1 (by rw [E_k23]; decide) hg, hR.2.2.2⟩

/-- A store over the last of the kills. -/
theorem put_last {w0 w : World} {g gk n : Nat} {s : St} {vu vr vl : Value} (hI : Blk w g s (.slice (some ⟨gk, 0, none⟩) s.kills.length n) vu vr vl) (hR : Rows w0 w s (.slice (some ⟨gk, 0, none⟩) s.kills.length n) vu vr vl) (hp : 0 < s.kills.length) (hg : w0.heap.size ≤ g) (hB : Below w0.heap.size w0 w) (x : ByteArray) :
    IsW w0 (w.setCell ⟨gk, s.kills.length - 1, none⟩ (.string x)) g { s with kills := s.kills.set (s.kills.length - 1) x } ∧ Below w0.heap.size w0 (w.setCell ⟨gk, s.kills.length - 1, none⟩ (.string x)) := by
  have e : ((s.kills.length : Int) - 1).toNat = s.kills.length - 1 := by omega
  have h := Kd.R_putg hR.1 ((s.kills.length : Int) - 1) x
  rw [e] at h
  obtain ⟨a, b⟩ := grown_kills hI hR h.1 (by simpa [Value.ownBlock] using h.2)
  have hk : w0.heap.size ≤ gk := Kd.R_base hR.1 gk (by simp [Value.ownBlock])
  exact ⟨⟨_, vu, vr, vl, a, hg, b⟩, below_set hB hk⟩

set_option maxHeartbeats 4000000 in
set_option maxRecDepth 100000 in
theorem editor_worker_kill.calls (w0 w : World) (g : Nat) (s : St) (action i j : Int) (hI : IsW w0 w g s) (hu : s.undo.length < 1000000) (hk : s.kills.length < 1000000) (hks : ∀ k ∈ s.kills, k.size ≤ 1000000) (h0 : 0 ≤ i) (h1 : i ≤ s.text.size) (h2 : 0 ≤ j) (h3 : j ≤ s.text.size) (hs : s.text.size ≤ 1000000) (hB : Below w0.heap.size w0 w) :
    Calls Try.prog 39 #[.pointer (some ⟨g, 0, none⟩), .int .i64 action, .int .i64 i, .int .i64 j] w fun e w' => e = .returned (.tuple #[]) ∧ IsW w0 w' g (killS s action i j) ∧ Below w0.heap.size w0 w' := by
  obtain ⟨vk, vu, vr, vl, hb, hg, hR⟩ := id hI
  obtain ⟨c0, c1, c2, c3, c4, c5, c6, c7, c8, c9, c10, c11⟩ := hb.cells
  have HI := Aside0.mk hI
  have HB := Aside0.mk hB
  clear hR hI hB
  unfold killS
  by_cases hc : i < j
  · rw [if_pos hc]
    have q0 : ¬ j ≤ i := by omega
    have q5 : i ≤ j := by omega
    obtain ⟨s1, hs1⟩ : ∃ z, z = removeS s action i j := ⟨_, rfl⟩
    obtain ⟨e1, e2⟩ := removeS_keep s action i j
    rw [← hs1] at e1 e2 ⊢
    have S1 := Aside0.mk hs1
    clear hs1
    obtain ⟨x, hx⟩ : ∃ z, z = s.text.extract i.toNat j.toNat := ⟨_, rfl⟩
    have X1 := Aside0.mk hx
    rw [← hx]
    clear hx
    by_cases hj : joins s x = true
    · have hkl : killedS s action x = s.kills.set (s.kills.length - 1) (if action = 12 ∨ action = 14 then x ++ lastOf s.kills else lastOf s.kills ++ x) := by
        unfold killedS
        rw [if_pos hj]
        unfold joins at hj
        rcases List.eq_nil_or_concat s.kills with h2 | ⟨a, b, h2⟩
        · rw [h2] at hj; simp at hj
        · rw [h2]; simp
      rw [hkl, ← e1]
      rw [← e1] at hk
      have hks1 : ∀ k ∈ s1.kills, k.size ≤ 1000000 := by rw [e1]; exact hks
      unfold joins at hj
      rw [← e1, ← e2] at hj
      simp only [Bool.and_eq_true, Bool.not_eq_true', List.isEmpty_eq_false_iff, decide_eq_true_eq] at hj
      obtain ⟨⟨k1b, k2a⟩, k3a⟩ := hj
      have k2b : 0 < s1.kills.length := List.length_pos_iff.mpr k2a
      have hls : (lastOf s1.kills).size ≤ 1000000 := hks1 _ (last_mem k2b)
      have hxs : x.size = j.toNat - i.toNat := by rw [X1.out, ByteArray.size_extract]; omega
      have k3d : (lastOf s1.kills).size + (j.toNat - i.toNat) ≤ 4096 := by omega
      have k3e : ((lastOf s1.kills).size : Int) + ((j.toNat - i.toNat : Nat) : Int) ≤ 4096 := by omega
      have k3f : (j.toNat - i.toNat) + (lastOf s1.kills).size ≤ 9223372036854775807 := by omega
      have E1 := Aside0.mk e1
      have E2 := Aside0.mk e2
      have HXS := Aside0.mk hxs
      have hkv := hk
      clear hkl e1 e2 hks1 k3a k2a hxs hk
      by_cases ha : action = 12 ∨ action = 14
      · rw [if_pos ha]
        have ha2 : ((action == 12) = true ∧ True) ∨ ((action == 12) = false ∧ (action == 14) = true) := by
          by_cases h12 : action = 12
          · exact .inl ⟨beq_iff_eq.mpr h12, trivial⟩
          · exact .inr ⟨beq_eq_false_iff_ne.mpr h12, beq_iff_eq.mpr (ha.resolve_left h12)⟩
        clear ha
        rcases ha2 with ⟨a1, a2⟩ | ⟨a1, a2⟩
        all_goals
          go_enter Try.func39, Try.ntmps39
          go_wp2_with (first | (go_at_call 38; refine (editor_worker_remove.calls w0 w g s action i j HI.out hu h0 h1 h2 h3 hs HB.out).mono ?_; rintro e w1 ⟨rfl, h5, h6⟩; rw [← S1.out] at h5; obtain ⟨vk1, vu1, vr1, vl1, H1, hg1, R1⟩ := h5; obtain ⟨gk, n1, rfl, hgk1, hgk2, ⟨csk, hcsk⟩⟩ := Kd.R_form R1.1 k2b; obtain ⟨lc1, lc2⟩ := last_cell R1.1 k2b; obtain ⟨d0, d1, d2, d3, d4, d5, d6, d7, d8, d9, d10, d11⟩ := H1.cells; obtain ⟨f0, f1, f2, f3, f4, f5, f6, f7, f8, f9⟩ := H1.frozen; have HI1 := Aside0.mk H1; have HR1 := Aside0.mk R1; have HB1 := Aside0.mk h6; clear H1 R1 h6 hg1) | (go_at_call 60; refine (editor_kills.calls _ (killsB s1.last) _ (kills_f _)).mono ?_; rintro e w2 ⟨rfl, ⟨m, rfl⟩⟩))
          go_region
          all_goals go_wp2
          all_goals
            obtain ⟨z1, z2⟩ := put_last (HI1.out.below (pw_below_drewN (Below.refl _ _) (m + 1))) (HR1.out.below (pw_below_drewN (Below.refl _ _) (m + 1))) k2b hg (pw_below_drewN HB1.out (m + 1)) (s.text.extract i.toNat j.toNat ++ lastOf s1.kills)
            rw [X1.out]
            exact bodyPost_ret (results_none rfl _ _ _) rfl ⟨rfl, z1, z2⟩
      · rw [if_neg ha]
        have a1 : (action == 12) = false := beq_eq_false_iff_ne.mpr (fun h => ha (.inl h))
        have a2 : (action == 14) = false := beq_eq_false_iff_ne.mpr (fun h => ha (.inr h))
        clear ha
        go_enter Try.func39, Try.ntmps39
        go_wp2_with (first | (go_at_call 38; refine (editor_worker_remove.calls w0 w g s action i j HI.out hu h0 h1 h2 h3 hs HB.out).mono ?_; rintro e w1 ⟨rfl, h5, h6⟩; rw [← S1.out] at h5; obtain ⟨vk1, vu1, vr1, vl1, H1, hg1, R1⟩ := h5; obtain ⟨gk, n1, rfl, hgk1, hgk2, ⟨csk, hcsk⟩⟩ := Kd.R_form R1.1 k2b; obtain ⟨lc1, lc2⟩ := last_cell R1.1 k2b; obtain ⟨d0, d1, d2, d3, d4, d5, d6, d7, d8, d9, d10, d11⟩ := H1.cells; obtain ⟨f0, f1, f2, f3, f4, f5, f6, f7, f8, f9⟩ := H1.frozen; have HI1 := Aside0.mk H1; have HR1 := Aside0.mk R1; have HB1 := Aside0.mk h6; clear H1 R1 h6 hg1) | (go_at_call 60; refine (editor_kills.calls _ (killsB s1.last) _ (kills_f _)).mono ?_; rintro e w2 ⟨rfl, ⟨m, rfl⟩⟩))
        obtain ⟨z1, z2⟩ := put_last (HI1.out.below (pw_below_drewN (Below.refl _ _) m)) (HR1.out.below (pw_below_drewN (Below.refl _ _) m)) k2b hg (pw_below_drewN HB1.out m) (lastOf s1.kills ++ s.text.extract i.toNat j.toNat)
        rw [X1.out]
        exact bodyPost_ret (results_none rfl _ _ _) rfl ⟨rfl, z1, z2⟩
    · have hkl : killedS s action x = pushK s.kills x := by unfold killedS; rw [if_neg hj]
      rw [hkl, ← e1]
      rw [← e1] at hk
      have HK := Aside0.mk hk
      have E1 := Aside0.mk e1
      have E2 := Aside0.mk e2
      clear hkl hk e1 e2
      have k123 : (killsB s1.last = false ∧ True) ∨ (killsB s1.last = true ∧ (decide (0 < (s1.kills.length : Int)) = false ∧ decide (0 < s1.kills.length) = false)) ∨ (killsB s1.last = true ∧ 0 < s1.kills.length ∧ 4096 < ((lastOf s1.kills).size : Int) + ((s.text.extract i.toNat j.toNat).size : Int)) := by
        rw [E1.out, E2.out, ← X1.out]
        unfold joins at hj
        rcases h1 : killsB s.last with _ | _
        · exact .inl ⟨rfl, trivial⟩
        · rcases h2 : s.kills with _ | ⟨z, l⟩
          · exact .inr (.inl ⟨rfl, rfl, rfl⟩)
          · refine .inr (.inr ⟨rfl, by simp, ?_⟩)
            rw [h1, h2] at hj
            simpa using hj
      rcases k123 with ⟨k1b, k2b⟩ | ⟨k1b, k2b, k2c⟩ | ⟨k1b, k2b, k3b⟩
      · obtain ⟨y, hy⟩ : ∃ z, z = s1.kills ++ [s.text.extract i.toNat j.toNat] := ⟨_, rfl⟩
        have hyl : y.length = s1.kills.length + 1 := by rw [hy]; simp
        have Y1 := Aside0.mk hy
        have YL := Aside0.mk hyl
        rw [show pushK s1.kills x = if y.length > 16 then y.drop 1 else y from by rw [hy, X1.out]; rfl]
        clear hy hyl
        by_cases h16 : y.length > 16
        · rw [if_pos h16]
          have h16b : decide (16 < (y.length : Int)) = true := decide_eq_true (by omega)
          have h16c : decide (16 < y.length) = true := decide_eq_true (by omega)
          have h16d : decide ((1 : Int) ≤ (y.length : Int)) = true := decide_eq_true (by omega)
          clear h16
          go_enter Try.func39, Try.ntmps39
          go_wp2_with (first | (go_at_call 38; refine (editor_worker_remove.calls w0 w g s action i j HI.out hu h0 h1 h2 h3 hs HB.out).mono ?_; rintro e w1 ⟨rfl, h5, h6⟩; rw [← S1.out] at h5; obtain ⟨vk1, vu1, vr1, vl1, H1, hg1, R1⟩ := h5; obtain ⟨A1, n1, rfl⟩ := Kd.R_slice R1.1; obtain ⟨d0, d1, d2, d3, d4, d5, d6, d7, d8, d9, d10, d11⟩ := H1.cells; obtain ⟨f0, f1, f2, f3, f4, f5, f6, f7, f8, f9⟩ := H1.frozen; have HI1 := Aside0.mk H1; have HR1 := Aside0.mk R1; have HB1 := Aside0.mk h6; clear H1 R1 h6 hg1) | (go_at_call 60; refine (editor_kills.calls _ (killsB s1.last) _ (kills_f _)).mono ?_; rintro e w2 ⟨rfl, ⟨m, rfl⟩⟩) | ((with_reducible refine gate_builtin (b := .append) (xs := #[.tmp 101, .tmp 103]) rfl ?_); at_builtin; refine Kd.R_append Kd.string (w0 := w0) w0.heap.size rfl (.tmp 101) (.tmp 103) 24 9 (.string ⟨#[]⟩) 16 rfl Try.underlying24 info9 rfl (by decide) (by omega) (.slice A1 s1.kills.length n1) s1.kills (s.text.extract i.toNat j.toNat) [.string (s.text.extract i.toNat j.toNat)] (fun _ => True) (fun _ => False) rfl rfl ?aP (fun _ hk => hk.elim) (fun _ _ => trivial) ?aO ?aB ?aS ?aL ?_; (case aP => exact rfl); (case aO => exact Kd.R_drewN HR1.out.1 _); (case aB => exact pw_below_drewN HB1.out _); (case aS => exact HB1.out.size); (case aL => have := HK.out; omega); intro v2 w3 ho hb3 hg3 hat; rw [← Y1.out] at ho; obtain ⟨H3, R3⟩ := grown_kills (HI1.out.below (pw_below_drewN (Below.refl _ _) _)) (HR1.out.below (pw_below_drewN (Below.refl _ _) _)) ho hg3; obtain ⟨A2, n2, rfl⟩ := Kd.R_slice ho; have HI3 := Aside0.mk H3; have HR3 := Aside0.mk R3; have HB3 := Aside0.mk hb3; have p3 := H3.cells.2.2.2.1; have p4 := H3.frozen.2.2.2.1; have H5 := H3.set3 y (.slice A2 y.length n2); have HI5 := Aside0.mk H5; have HR5 := Aside0.mk (R3.set H3 3 (.slice A2 y.length n2)); have HB5 := Aside0.mk (show Below w0.heap.size w0 (w3.setCell ⟨g, 3, none⟩ (.slice A2 y.length n2)) from below_set hb3 hg); clear H5 ho H3 R3 hb3 hat hg3) | ((with_reducible refine gate_dst (N := 116) rfl ?_); refine Kd.R_lit Kd.string _ 9 ?hg (N := 116) ?hd (xs := ([] : List ByteArray)) (inner := []) (ok := fun _ => True) (okp := fun _ => True) ?hr ?hp (fun _ hk => hk) trivial (Below.refl _ _) (Nat.le_refl _) (by simp) ?_; (case hd => rfl); (case hg => rfl); (case hr => first | (go_simp; done) | (go_simp; rfl)); (case hp => exact (Reps.none _ _)); intro v6 w6 ho6 hb6 hg6 hnew6; have HI6 := Aside0.mk (HI5.out.below hb6); have HR6 := Aside0.mk (HR5.out.below hb6); have HB6 := Aside0.mk (below_step HB5.out hb6); have HO6 := Aside0.mk (Kd.R_lower ho6 HB5.out.size); have p6 := HI6.out.cells.2.2.2.1; have p7 := HI6.out.frozen.2.2.2.1; have q13 : (1 : Int) ≤ ((y.length : Int) : Int) := of_decide_eq_true (by first | (with_reducible assumption) | assumption); obtain ⟨i013, hi013, _, hsz13, _⟩ := info_parts info9; have hroom13 : y.length ≤ n2 := (Kd.R_reads' HR6.out.1).2.1; have hC13 : Kd.C Kd.string w6 A2 y.length y := (Kd.R_reads' HR6.out.1).2.2; have hcut13 := cut_from (P := Try.prog) 24 9 .i64 Try.underlying24 hi013 1 hsz13 A2 y.length n2 1 (by omega) q13; have hr13 := Kd.C_drop (m := (1 : Int).toNat) (c := n2) hC13 (by omega) hroom13; obtain ⟨A13, hA13⟩ : ∃ A1, A1 = (if n2 = (1 : Int).toNat then A2 else (A2 : Option Addr).map (·.add ((1 : Int).toNat * 1))) := ⟨_, rfl⟩; obtain ⟨c13, hc13⟩ : ∃ c1, c1 = n2 - (1 : Int).toNat := ⟨_, rfl⟩; have hy13 : (y.drop 1).length = y.length - (1 : Int).toNat := (by rw [List.length_drop] <;> omega); replace hr13 : Kd.C Kd.string w6 A13 (y.drop 1).length (y.drop 1) := (by rw [hA13]; exact hr13); obtain ⟨z1, hz1⟩ : ∃ z, z = y.drop 1 := ⟨_, rfl⟩; rw [← hz1] at hy13 hr13; rw [← hy13, ← hA13, ← hc13] at hcut13; have HR13 := Aside0.mk hr13; have HZ1 := Aside0.mk hz1; have HY13 := Aside0.mk hy13; clear hr13 hC13 hroom13 hi013 hsz13 hc13 hA13 hz1 hy13 ho6 hb6 hg6 hnew6; replace q13 := eq_true q13) | ((with_reducible refine gate_builtin (b := .append) (xs := #[.tmp 116, .tmp 122]) rfl ?_); at_builtin; refine Kd.R_append_rows Kd.string (w0 := w0) w0.heap.size rfl (.tmp 116) (.tmp 122) 24 9 (.string ⟨#[]⟩) 16 rfl Try.underlying24 info9 rfl (by decide) (by omega) v6 [] z1 _ _ _ (fun _ => True) (fun _ => False) rfl rfl ?aO ?aR (fun _ _ h => h) (fun _ h => h.elim) (fun _ _ => trivial) ?aB ?aS ?aL ?_; (case aR => exact HR13.out); (case aO => exact HO6.out); (case aB => exact HB6.out); (case aS => exact HB6.out.size); (case aL => have := HK.out; have := YL.out; have := HY13.out; simp; omega); intro v7 w7 ho7 hb7 hg7 hat7; rw [List.nil_append] at ho7; have HI7 := Aside0.mk (show Blk w7 g _ _ _ _ _ from blk_grown HI6.out hg7 (Kd.R_ne HO6.out HI6.out (by decide))); have HU7 := Aside0.mk (Kd.R_over HR6.out.2.1 HO6.out (by rw [E_k23]; decide) hg7); have HV7 := Aside0.mk (Kd.R_over HR6.out.2.2.1 HO6.out (by rw [E_k23]; decide) hg7); obtain ⟨A7, n7, rfl⟩ := Kd.R_slice ho7; have p8 := HI7.out.cells.2.2.2.1; have p9 := HI7.out.frozen.2.2.2.1; have HK7 := Aside0.mk ho7; have HB7 := Aside0.mk hb7; clear ho7 hb7 hg7 hat7))
          go_end0
          have ht : y.tail = z1 := by rw [HZ1.out, List.drop_one]
          have R7 : Rows w0 w7 { s1 with kills := z1 } (.slice A7 z1.length n7) vu1 vr1 vl1 := ⟨HK7.out, HU7.out, HV7.out, HR6.out.2.2.2⟩
          simp only [List.drop_one]
          rw [ht]
          exact ⟨trivial, ⟨.slice A7 z1.length n7, vu1, vr1, vl1, HI7.out.set3 z1 _, hg, R7.set HI7.out 3 _⟩, below_set HB7.out hg⟩
        · rw [if_neg h16]
          have h16b : decide (16 < (y.length : Int)) = false := decide_eq_false (by omega)
          have h16c : decide (16 < y.length) = false := decide_eq_false (by omega)
          clear h16
          go_enter Try.func39, Try.ntmps39
          go_wp2_with (first | (go_at_call 38; refine (editor_worker_remove.calls w0 w g s action i j HI.out hu h0 h1 h2 h3 hs HB.out).mono ?_; rintro e w1 ⟨rfl, h5, h6⟩; rw [← S1.out] at h5; obtain ⟨vk1, vu1, vr1, vl1, H1, hg1, R1⟩ := h5; obtain ⟨A1, n1, rfl⟩ := Kd.R_slice R1.1; obtain ⟨d0, d1, d2, d3, d4, d5, d6, d7, d8, d9, d10, d11⟩ := H1.cells; obtain ⟨f0, f1, f2, f3, f4, f5, f6, f7, f8, f9⟩ := H1.frozen; have HI1 := Aside0.mk H1; have HR1 := Aside0.mk R1; have HB1 := Aside0.mk h6; clear H1 R1 h6 hg1) | (go_at_call 60; refine (editor_kills.calls _ (killsB s1.last) _ (kills_f _)).mono ?_; rintro e w2 ⟨rfl, ⟨m, rfl⟩⟩) | ((with_reducible refine gate_builtin (b := .append) (xs := #[.tmp 101, .tmp 103]) rfl ?_); at_builtin; refine Kd.R_append Kd.string (w0 := w0) w0.heap.size rfl (.tmp 101) (.tmp 103) 24 9 (.string ⟨#[]⟩) 16 rfl Try.underlying24 info9 rfl (by decide) (by omega) (.slice A1 s1.kills.length n1) s1.kills (s.text.extract i.toNat j.toNat) [.string (s.text.extract i.toNat j.toNat)] (fun _ => True) (fun _ => False) rfl rfl ?aP (fun _ hk => hk.elim) (fun _ _ => trivial) ?aO ?aB ?aS ?aL ?_; (case aP => exact rfl); (case aO => exact Kd.R_drewN HR1.out.1 _); (case aB => exact pw_below_drewN HB1.out _); (case aS => exact HB1.out.size); (case aL => have := HK.out; omega); intro v2 w3 ho hb3 hg3 hat; rw [← Y1.out] at ho; obtain ⟨H3, R3⟩ := grown_kills (HI1.out.below (pw_below_drewN (Below.refl _ _) _)) (HR1.out.below (pw_below_drewN (Below.refl _ _) _)) ho hg3; obtain ⟨A2, n2, rfl⟩ := Kd.R_slice ho; have HI3 := Aside0.mk H3; have HR3 := Aside0.mk R3; have HB3 := Aside0.mk hb3; have p3 := H3.cells.2.2.2.1; have p4 := H3.frozen.2.2.2.1; clear ho H3 R3 hb3 hat hg3))
          go_end0
          exact ⟨rfl, ⟨_, vu1, vr1, vl1, HI3.out.set3 y _, hg, HR3.out.set HI3.out 3 _⟩, below_set HB3.out hg⟩
      · obtain ⟨y, hy⟩ : ∃ z, z = s1.kills ++ [s.text.extract i.toNat j.toNat] := ⟨_, rfl⟩
        have hyl : y.length = s1.kills.length + 1 := by rw [hy]; simp
        have Y1 := Aside0.mk hy
        have YL := Aside0.mk hyl
        rw [show pushK s1.kills x = if y.length > 16 then y.drop 1 else y from by rw [hy, X1.out]; rfl]
        clear hy hyl
        by_cases h16 : y.length > 16
        · rw [if_pos h16]
          have h16b : decide (16 < (y.length : Int)) = true := decide_eq_true (by omega)
          have h16c : decide (16 < y.length) = true := decide_eq_true (by omega)
          have h16d : decide ((1 : Int) ≤ (y.length : Int)) = true := decide_eq_true (by omega)
          clear h16
          go_enter Try.func39, Try.ntmps39
          go_wp2_with (first | (go_at_call 38; refine (editor_worker_remove.calls w0 w g s action i j HI.out hu h0 h1 h2 h3 hs HB.out).mono ?_; rintro e w1 ⟨rfl, h5, h6⟩; rw [← S1.out] at h5; obtain ⟨vk1, vu1, vr1, vl1, H1, hg1, R1⟩ := h5; obtain ⟨A1, n1, rfl⟩ := Kd.R_slice R1.1; obtain ⟨d0, d1, d2, d3, d4, d5, d6, d7, d8, d9, d10, d11⟩ := H1.cells; obtain ⟨f0, f1, f2, f3, f4, f5, f6, f7, f8, f9⟩ := H1.frozen; have HI1 := Aside0.mk H1; have HR1 := Aside0.mk R1; have HB1 := Aside0.mk h6; clear H1 R1 h6 hg1) | (go_at_call 60; refine (editor_kills.calls _ (killsB s1.last) _ (kills_f _)).mono ?_; rintro e w2 ⟨rfl, ⟨m, rfl⟩⟩) | ((with_reducible refine gate_builtin (b := .append) (xs := #[.tmp 101, .tmp 103]) rfl ?_); at_builtin; refine Kd.R_append Kd.string (w0 := w0) w0.heap.size rfl (.tmp 101) (.tmp 103) 24 9 (.string ⟨#[]⟩) 16 rfl Try.underlying24 info9 rfl (by decide) (by omega) (.slice A1 s1.kills.length n1) s1.kills (s.text.extract i.toNat j.toNat) [.string (s.text.extract i.toNat j.toNat)] (fun _ => True) (fun _ => False) rfl rfl ?aP (fun _ hk => hk.elim) (fun _ _ => trivial) ?aO ?aB ?aS ?aL ?_; (case aP => exact rfl); (case aO => exact Kd.R_drewN HR1.out.1 _); (case aB => exact pw_below_drewN HB1.out _); (case aS => exact HB1.out.size); (case aL => have := HK.out; omega); intro v2 w3 ho hb3 hg3 hat; rw [← Y1.out] at ho; obtain ⟨H3, R3⟩ := grown_kills (HI1.out.below (pw_below_drewN (Below.refl _ _) _)) (HR1.out.below (pw_below_drewN (Below.refl _ _) _)) ho hg3; obtain ⟨A2, n2, rfl⟩ := Kd.R_slice ho; have HI3 := Aside0.mk H3; have HR3 := Aside0.mk R3; have HB3 := Aside0.mk hb3; have p3 := H3.cells.2.2.2.1; have p4 := H3.frozen.2.2.2.1; have H5 := H3.set3 y (.slice A2 y.length n2); have HI5 := Aside0.mk H5; have HR5 := Aside0.mk (R3.set H3 3 (.slice A2 y.length n2)); have HB5 := Aside0.mk (show Below w0.heap.size w0 (w3.setCell ⟨g, 3, none⟩ (.slice A2 y.length n2)) from below_set hb3 hg); clear H5 ho H3 R3 hb3 hat hg3) | ((with_reducible refine gate_dst (N := 116) rfl ?_); refine Kd.R_lit Kd.string _ 9 ?hg (N := 116) ?hd (xs := ([] : List ByteArray)) (inner := []) (ok := fun _ => True) (okp := fun _ => True) ?hr ?hp (fun _ hk => hk) trivial (Below.refl _ _) (Nat.le_refl _) (by simp) ?_; (case hd => rfl); (case hg => rfl); (case hr => first | (go_simp; done) | (go_simp; rfl)); (case hp => exact (Reps.none _ _)); intro v6 w6 ho6 hb6 hg6 hnew6; have HI6 := Aside0.mk (HI5.out.below hb6); have HR6 := Aside0.mk (HR5.out.below hb6); have HB6 := Aside0.mk (below_step HB5.out hb6); have HO6 := Aside0.mk (Kd.R_lower ho6 HB5.out.size); have p6 := HI6.out.cells.2.2.2.1; have p7 := HI6.out.frozen.2.2.2.1; have q13 : (1 : Int) ≤ ((y.length : Int) : Int) := of_decide_eq_true (by first | (with_reducible assumption) | assumption); obtain ⟨i013, hi013, _, hsz13, _⟩ := info_parts info9; have hroom13 : y.length ≤ n2 := (Kd.R_reads' HR6.out.1).2.1; have hC13 : Kd.C Kd.string w6 A2 y.length y := (Kd.R_reads' HR6.out.1).2.2; have hcut13 := cut_from (P := Try.prog) 24 9 .i64 Try.underlying24 hi013 1 hsz13 A2 y.length n2 1 (by omega) q13; have hr13 := Kd.C_drop (m := (1 : Int).toNat) (c := n2) hC13 (by omega) hroom13; obtain ⟨A13, hA13⟩ : ∃ A1, A1 = (if n2 = (1 : Int).toNat then A2 else (A2 : Option Addr).map (·.add ((1 : Int).toNat * 1))) := ⟨_, rfl⟩; obtain ⟨c13, hc13⟩ : ∃ c1, c1 = n2 - (1 : Int).toNat := ⟨_, rfl⟩; have hy13 : (y.drop 1).length = y.length - (1 : Int).toNat := (by rw [List.length_drop] <;> omega); replace hr13 : Kd.C Kd.string w6 A13 (y.drop 1).length (y.drop 1) := (by rw [hA13]; exact hr13); obtain ⟨z1, hz1⟩ : ∃ z, z = y.drop 1 := ⟨_, rfl⟩; rw [← hz1] at hy13 hr13; rw [← hy13, ← hA13, ← hc13] at hcut13; have HR13 := Aside0.mk hr13; have HZ1 := Aside0.mk hz1; have HY13 := Aside0.mk hy13; clear hr13 hC13 hroom13 hi013 hsz13 hc13 hA13 hz1 hy13 ho6 hb6 hg6 hnew6; replace q13 := eq_true q13) | ((with_reducible refine gate_builtin (b := .append) (xs := #[.tmp 116, .tmp 122]) rfl ?_); at_builtin; refine Kd.R_append_rows Kd.string (w0 := w0) w0.heap.size rfl (.tmp 116) (.tmp 122) 24 9 (.string ⟨#[]⟩) 16 rfl Try.underlying24 info9 rfl (by decide) (by omega) v6 [] z1 _ _ _ (fun _ => True) (fun _ => False) rfl rfl ?aO ?aR (fun _ _ h => h) (fun _ h => h.elim) (fun _ _ => trivial) ?aB ?aS ?aL ?_; (case aR => exact HR13.out); (case aO => exact HO6.out); (case aB => exact HB6.out); (case aS => exact HB6.out.size); (case aL => have := HK.out; have := YL.out; have := HY13.out; simp; omega); intro v7 w7 ho7 hb7 hg7 hat7; rw [List.nil_append] at ho7; have HI7 := Aside0.mk (show Blk w7 g _ _ _ _ _ from blk_grown HI6.out hg7 (Kd.R_ne HO6.out HI6.out (by decide))); have HU7 := Aside0.mk (Kd.R_over HR6.out.2.1 HO6.out (by rw [E_k23]; decide) hg7); have HV7 := Aside0.mk (Kd.R_over HR6.out.2.2.1 HO6.out (by rw [E_k23]; decide) hg7); obtain ⟨A7, n7, rfl⟩ := Kd.R_slice ho7; have p8 := HI7.out.cells.2.2.2.1; have p9 := HI7.out.frozen.2.2.2.1; have HK7 := Aside0.mk ho7; have HB7 := Aside0.mk hb7; clear ho7 hb7 hg7 hat7))
          go_end0
          have ht : y.tail = z1 := by rw [HZ1.out, List.drop_one]
          have R7 : Rows w0 w7 { s1 with kills := z1 } (.slice A7 z1.length n7) vu1 vr1 vl1 := ⟨HK7.out, HU7.out, HV7.out, HR6.out.2.2.2⟩
          simp only [List.drop_one]
          rw [ht]
          exact ⟨trivial, ⟨.slice A7 z1.length n7, vu1, vr1, vl1, HI7.out.set3 z1 _, hg, R7.set HI7.out 3 _⟩, below_set HB7.out hg⟩
        · rw [if_neg h16]
          have h16b : decide (16 < (y.length : Int)) = false := decide_eq_false (by omega)
          have h16c : decide (16 < y.length) = false := decide_eq_false (by omega)
          clear h16
          go_enter Try.func39, Try.ntmps39
          go_wp2_with (first | (go_at_call 38; refine (editor_worker_remove.calls w0 w g s action i j HI.out hu h0 h1 h2 h3 hs HB.out).mono ?_; rintro e w1 ⟨rfl, h5, h6⟩; rw [← S1.out] at h5; obtain ⟨vk1, vu1, vr1, vl1, H1, hg1, R1⟩ := h5; obtain ⟨A1, n1, rfl⟩ := Kd.R_slice R1.1; obtain ⟨d0, d1, d2, d3, d4, d5, d6, d7, d8, d9, d10, d11⟩ := H1.cells; obtain ⟨f0, f1, f2, f3, f4, f5, f6, f7, f8, f9⟩ := H1.frozen; have HI1 := Aside0.mk H1; have HR1 := Aside0.mk R1; have HB1 := Aside0.mk h6; clear H1 R1 h6 hg1) | (go_at_call 60; refine (editor_kills.calls _ (killsB s1.last) _ (kills_f _)).mono ?_; rintro e w2 ⟨rfl, ⟨m, rfl⟩⟩) | ((with_reducible refine gate_builtin (b := .append) (xs := #[.tmp 101, .tmp 103]) rfl ?_); at_builtin; refine Kd.R_append Kd.string (w0 := w0) w0.heap.size rfl (.tmp 101) (.tmp 103) 24 9 (.string ⟨#[]⟩) 16 rfl Try.underlying24 info9 rfl (by decide) (by omega) (.slice A1 s1.kills.length n1) s1.kills (s.text.extract i.toNat j.toNat) [.string (s.text.extract i.toNat j.toNat)] (fun _ => True) (fun _ => False) rfl rfl ?aP (fun _ hk => hk.elim) (fun _ _ => trivial) ?aO ?aB ?aS ?aL ?_; (case aP => exact rfl); (case aO => exact Kd.R_drewN HR1.out.1 _); (case aB => exact pw_below_drewN HB1.out _); (case aS => exact HB1.out.size); (case aL => have := HK.out; omega); intro v2 w3 ho hb3 hg3 hat; rw [← Y1.out] at ho; obtain ⟨H3, R3⟩ := grown_kills (HI1.out.below (pw_below_drewN (Below.refl _ _) _)) (HR1.out.below (pw_below_drewN (Below.refl _ _) _)) ho hg3; obtain ⟨A2, n2, rfl⟩ := Kd.R_slice ho; have HI3 := Aside0.mk H3; have HR3 := Aside0.mk R3; have HB3 := Aside0.mk hb3; have p3 := H3.cells.2.2.2.1; have p4 := H3.frozen.2.2.2.1; clear ho H3 R3 hb3 hat hg3))
          go_end0
          exact ⟨rfl, ⟨_, vu1, vr1, vl1, HI3.out.set3 y _, hg, HR3.out.set HI3.out 3 _⟩, below_set HB3.out hg⟩
      · have hkv := HK.out
        have hls : (lastOf s1.kills).size ≤ 1000000 := by
          have := hks (lastOf s1.kills) (by rw [← E1.out]; exact last_mem k2b)
          exact this
        have k3d : 4096 < (lastOf s1.kills).size + (j.toNat - i.toNat) := by
          rw [ByteArray.size_extract] at k3b
          omega
        have k3e : ¬ ((lastOf s1.kills).size : Int) + ((j.toNat - i.toNat : Nat) : Int) ≤ 4096 := by omega
        clear k3b
        obtain ⟨y, hy⟩ : ∃ z, z = s1.kills ++ [s.text.extract i.toNat j.toNat] := ⟨_, rfl⟩
        have hyl : y.length = s1.kills.length + 1 := by rw [hy]; simp
        have Y1 := Aside0.mk hy
        have YL := Aside0.mk hyl
        rw [show pushK s1.kills x = if y.length > 16 then y.drop 1 else y from by rw [hy, X1.out]; rfl]
        clear hy hyl
        by_cases h16 : y.length > 16
        · rw [if_pos h16]
          have h16b : decide (16 < (y.length : Int)) = true := decide_eq_true (by omega)
          have h16c : decide (16 < y.length) = true := decide_eq_true (by omega)
          have h16d : decide ((1 : Int) ≤ (y.length : Int)) = true := decide_eq_true (by omega)
          clear h16
          go_enter Try.func39, Try.ntmps39
          go_wp2_with (first | (go_at_call 38; refine (editor_worker_remove.calls w0 w g s action i j HI.out hu h0 h1 h2 h3 hs HB.out).mono ?_; rintro e w1 ⟨rfl, h5, h6⟩; rw [← S1.out] at h5; obtain ⟨vk1, vu1, vr1, vl1, H1, hg1, R1⟩ := h5; obtain ⟨gk, n1, rfl, hgk1, hgk2, ⟨csk, hcsk⟩⟩ := Kd.R_form R1.1 k2b; obtain ⟨lc1, lc2⟩ := last_cell R1.1 k2b; obtain ⟨d0, d1, d2, d3, d4, d5, d6, d7, d8, d9, d10, d11⟩ := H1.cells; obtain ⟨f0, f1, f2, f3, f4, f5, f6, f7, f8, f9⟩ := H1.frozen; have HI1 := Aside0.mk H1; have HR1 := Aside0.mk R1; have HB1 := Aside0.mk h6; clear H1 R1 h6 hg1) | (go_at_call 60; refine (editor_kills.calls _ (killsB s1.last) _ (kills_f _)).mono ?_; rintro e w2 ⟨rfl, ⟨m, rfl⟩⟩) | ((with_reducible refine gate_builtin (b := .append) (xs := #[.tmp 101, .tmp 103]) rfl ?_); at_builtin; refine Kd.R_append Kd.string (w0 := w0) w0.heap.size rfl (.tmp 101) (.tmp 103) 24 9 (.string ⟨#[]⟩) 16 rfl Try.underlying24 info9 rfl (by decide) (by omega) (.slice (some ⟨gk, 0, none⟩) s1.kills.length n1) s1.kills (s.text.extract i.toNat j.toNat) [.string (s.text.extract i.toNat j.toNat)] (fun _ => True) (fun _ => False) rfl rfl ?aP (fun _ hk => hk.elim) (fun _ _ => trivial) ?aO ?aB ?aS ?aL ?_; (case aP => exact rfl); (case aO => exact Kd.R_drewN HR1.out.1 _); (case aB => exact pw_below_drewN HB1.out _); (case aS => exact HB1.out.size); (case aL => have := HK.out; omega); intro v2 w3 ho hb3 hg3 hat; rw [← Y1.out] at ho; obtain ⟨H3, R3⟩ := grown_kills (HI1.out.below (pw_below_drewN (Below.refl _ _) _)) (HR1.out.below (pw_below_drewN (Below.refl _ _) _)) ho hg3; obtain ⟨A2, n2, rfl⟩ := Kd.R_slice ho; have HI3 := Aside0.mk H3; have HR3 := Aside0.mk R3; have HB3 := Aside0.mk hb3; have p3 := H3.cells.2.2.2.1; have p4 := H3.frozen.2.2.2.1; have H5 := H3.set3 y (.slice A2 y.length n2); have HI5 := Aside0.mk H5; have HR5 := Aside0.mk (R3.set H3 3 (.slice A2 y.length n2)); have HB5 := Aside0.mk (show Below w0.heap.size w0 (w3.setCell ⟨g, 3, none⟩ (.slice A2 y.length n2)) from below_set hb3 hg); clear H5 ho H3 R3 hb3 hat hg3) | ((with_reducible refine gate_dst (N := 116) rfl ?_); refine Kd.R_lit Kd.string _ 9 ?hg (N := 116) ?hd (xs := ([] : List ByteArray)) (inner := []) (ok := fun _ => True) (okp := fun _ => True) ?hr ?hp (fun _ hk => hk) trivial (Below.refl _ _) (Nat.le_refl _) (by simp) ?_; (case hd => rfl); (case hg => rfl); (case hr => first | (go_simp; done) | (go_simp; rfl)); (case hp => exact (Reps.none _ _)); intro v6 w6 ho6 hb6 hg6 hnew6; have HI6 := Aside0.mk (HI5.out.below hb6); have HR6 := Aside0.mk (HR5.out.below hb6); have HB6 := Aside0.mk (below_step HB5.out hb6); have HO6 := Aside0.mk (Kd.R_lower ho6 HB5.out.size); have p6 := HI6.out.cells.2.2.2.1; have p7 := HI6.out.frozen.2.2.2.1; have q13 : (1 : Int) ≤ ((y.length : Int) : Int) := of_decide_eq_true (by first | (with_reducible assumption) | assumption); obtain ⟨i013, hi013, _, hsz13, _⟩ := info_parts info9; have hroom13 : y.length ≤ n2 := (Kd.R_reads' HR6.out.1).2.1; have hC13 : Kd.C Kd.string w6 A2 y.length y := (Kd.R_reads' HR6.out.1).2.2; have hcut13 := cut_from (P := Try.prog) 24 9 .i64 Try.underlying24 hi013 1 hsz13 A2 y.length n2 1 (by omega) q13; have hr13 := Kd.C_drop (m := (1 : Int).toNat) (c := n2) hC13 (by omega) hroom13; obtain ⟨A13, hA13⟩ : ∃ A1, A1 = (if n2 = (1 : Int).toNat then A2 else (A2 : Option Addr).map (·.add ((1 : Int).toNat * 1))) := ⟨_, rfl⟩; obtain ⟨c13, hc13⟩ : ∃ c1, c1 = n2 - (1 : Int).toNat := ⟨_, rfl⟩; have hy13 : (y.drop 1).length = y.length - (1 : Int).toNat := (by rw [List.length_drop] <;> omega); replace hr13 : Kd.C Kd.string w6 A13 (y.drop 1).length (y.drop 1) := (by rw [hA13]; exact hr13); obtain ⟨z1, hz1⟩ : ∃ z, z = y.drop 1 := ⟨_, rfl⟩; rw [← hz1] at hy13 hr13; rw [← hy13, ← hA13, ← hc13] at hcut13; have HR13 := Aside0.mk hr13; have HZ1 := Aside0.mk hz1; have HY13 := Aside0.mk hy13; clear hr13 hC13 hroom13 hi013 hsz13 hc13 hA13 hz1 hy13 ho6 hb6 hg6 hnew6; replace q13 := eq_true q13) | ((with_reducible refine gate_builtin (b := .append) (xs := #[.tmp 116, .tmp 122]) rfl ?_); at_builtin; refine Kd.R_append_rows Kd.string (w0 := w0) w0.heap.size rfl (.tmp 116) (.tmp 122) 24 9 (.string ⟨#[]⟩) 16 rfl Try.underlying24 info9 rfl (by decide) (by omega) v6 [] z1 _ _ _ (fun _ => True) (fun _ => False) rfl rfl ?aO ?aR (fun _ _ h => h) (fun _ h => h.elim) (fun _ _ => trivial) ?aB ?aS ?aL ?_; (case aR => exact HR13.out); (case aO => exact HO6.out); (case aB => exact HB6.out); (case aS => exact HB6.out.size); (case aL => have := HK.out; have := YL.out; have := HY13.out; simp; omega); intro v7 w7 ho7 hb7 hg7 hat7; rw [List.nil_append] at ho7; have HI7 := Aside0.mk (show Blk w7 g _ _ _ _ _ from blk_grown HI6.out hg7 (Kd.R_ne HO6.out HI6.out (by decide))); have HU7 := Aside0.mk (Kd.R_over HR6.out.2.1 HO6.out (by rw [E_k23]; decide) hg7); have HV7 := Aside0.mk (Kd.R_over HR6.out.2.2.1 HO6.out (by rw [E_k23]; decide) hg7); obtain ⟨A7, n7, rfl⟩ := Kd.R_slice ho7; have p8 := HI7.out.cells.2.2.2.1; have p9 := HI7.out.frozen.2.2.2.1; have HK7 := Aside0.mk ho7; have HB7 := Aside0.mk hb7; clear ho7 hb7 hg7 hat7))
          go_end0
          have ht : y.tail = z1 := by rw [HZ1.out, List.drop_one]
          have R7 : Rows w0 w7 { s1 with kills := z1 } (.slice A7 z1.length n7) vu1 vr1 vl1 := ⟨HK7.out, HU7.out, HV7.out, HR6.out.2.2.2⟩
          simp only [List.drop_one]
          rw [ht]
          exact ⟨trivial, ⟨.slice A7 z1.length n7, vu1, vr1, vl1, HI7.out.set3 z1 _, hg, R7.set HI7.out 3 _⟩, below_set HB7.out hg⟩
        · rw [if_neg h16]
          have h16b : decide (16 < (y.length : Int)) = false := decide_eq_false (by omega)
          have h16c : decide (16 < y.length) = false := decide_eq_false (by omega)
          clear h16
          go_enter Try.func39, Try.ntmps39
          go_wp2_with (first | (go_at_call 38; refine (editor_worker_remove.calls w0 w g s action i j HI.out hu h0 h1 h2 h3 hs HB.out).mono ?_; rintro e w1 ⟨rfl, h5, h6⟩; rw [← S1.out] at h5; obtain ⟨vk1, vu1, vr1, vl1, H1, hg1, R1⟩ := h5; obtain ⟨gk, n1, rfl, hgk1, hgk2, ⟨csk, hcsk⟩⟩ := Kd.R_form R1.1 k2b; obtain ⟨lc1, lc2⟩ := last_cell R1.1 k2b; obtain ⟨d0, d1, d2, d3, d4, d5, d6, d7, d8, d9, d10, d11⟩ := H1.cells; obtain ⟨f0, f1, f2, f3, f4, f5, f6, f7, f8, f9⟩ := H1.frozen; have HI1 := Aside0.mk H1; have HR1 := Aside0.mk R1; have HB1 := Aside0.mk h6; clear H1 R1 h6 hg1) | (go_at_call 60; refine (editor_kills.calls _ (killsB s1.last) _ (kills_f _)).mono ?_; rintro e w2 ⟨rfl, ⟨m, rfl⟩⟩) | ((with_reducible refine gate_builtin (b := .append) (xs := #[.tmp 101, .tmp 103]) rfl ?_); at_builtin; refine Kd.R_append Kd.string (w0 := w0) w0.heap.size rfl (.tmp 101) (.tmp 103) 24 9 (.string ⟨#[]⟩) 16 rfl Try.underlying24 info9 rfl (by decide) (by omega) (.slice (some ⟨gk, 0, none⟩) s1.kills.length n1) s1.kills (s.text.extract i.toNat j.toNat) [.string (s.text.extract i.toNat j.toNat)] (fun _ => True) (fun _ => False) rfl rfl ?aP (fun _ hk => hk.elim) (fun _ _ => trivial) ?aO ?aB ?aS ?aL ?_; (case aP => exact rfl); (case aO => exact Kd.R_drewN HR1.out.1 _); (case aB => exact pw_below_drewN HB1.out _); (case aS => exact HB1.out.size); (case aL => have := HK.out; omega); intro v2 w3 ho hb3 hg3 hat; rw [← Y1.out] at ho; obtain ⟨H3, R3⟩ := grown_kills (HI1.out.below (pw_below_drewN (Below.refl _ _) _)) (HR1.out.below (pw_below_drewN (Below.refl _ _) _)) ho hg3; obtain ⟨A2, n2, rfl⟩ := Kd.R_slice ho; have HI3 := Aside0.mk H3; have HR3 := Aside0.mk R3; have HB3 := Aside0.mk hb3; have p3 := H3.cells.2.2.2.1; have p4 := H3.frozen.2.2.2.1; clear ho H3 R3 hb3 hat hg3))
          go_end0
          exact ⟨rfl, ⟨_, vu1, vr1, vl1, HI3.out.set3 y _, hg, HR3.out.set HI3.out 3 _⟩, below_set HB3.out hg⟩
  · rw [if_neg hc]
    have q0 : j ≤ i := by omega
    go_enter Try.func39, Try.ntmps39
    go_wp2
    exact bodyPost_ret (results_none rfl _ _ _) rfl ⟨rfl, HI.out, HB.out⟩
end Go.Proofs.Ytlbbjdggebgabaa.P
end

section
/- The editor's worker: restore. -/
namespace Go.Proofs.Ytlbbjdggebgabaa.P
open Go.RowKit Go.Proofs.YtlbbjdggebgabaaW.PrintWords Go.Proofs.YtlbbjdggebgabaaW.PrintLast Go.Proofs.YtlbbjdggebgabaaW.PrintMore
set_option linter.unusedVariables false
set_option linter.unusedSimpArgs false

def lastS (l : List S23) : S23 := l.getLastD z23
def backS (s : St) (l : List S23) : St := clampS { s with text := (lastS l).f0, pos := (lastS l).f1 }
theorem rd_last (l : List S23) (hp : 0 < l.length) : rd_T23 l ((l.length : Int) - 1) = lastS l := by
  have e : ((l.length : Int) - 1).toNat = l.length - 1 := by omega
  unfold rd_T23 lastS
  rw [e]
  rcases List.eq_nil_or_concat l with rfl | ⟨a, b, rfl⟩
  · simp at hp
  · simp
theorem add_at (g k : Nat) : Addr.add ⟨g, 0, none⟩ k = ⟨g, k, none⟩ := by
  unfold Addr.add
  split <;> simp_all
theorem last_snap {w : World} {gk : Nat} {l : List S23} (h : Kd.C k23 w (some ⟨gk, 0, none⟩) l.length l) (hp : 0 < l.length) :
    w.cell? ⟨gk, (l.length - 1) * 2, none⟩ = some (.string (lastS l).f0) ∧ w.cell? ⟨gk, (l.length - 1) * 2 + 1, none⟩ = some (.int .i64 (lastS l).f1) := by
  have e : ((l.length : Int) - 1).toNat = l.length - 1 := by omega
  obtain ⟨ad, ha, h1, h2⟩ := at_T23 h ((l.length : Int) - 1) (by omega) (by omega)
  injection ha with ha
  subst ha
  rw [e, rd_last l hp] at h1 h2
  rw [add_at] at h1 h2
  exact ⟨h1, h2⟩

/-- A row of the call's own, of another type than the worker's block, when that block alone was written. -/
theorem R_own {α : Type} {d : Kd α} {e base g : Nat} {ok : Nat → Prop} {w w1 : World} {v : Value} {xs : List α} {cs : Array Value} (hE : d.E = []) (he : e ≠ 63) (h : d.R e w base ok v xs) (hb : w.heap[g]? = some (.cells cs 63 (0, 0))) (hk : KeepBut w w1 g none) : d.R e w1 base ok v xs :=
  Kd.R_mono (Kd.R_keep (Kd.R_far1 h hE (Kd.R_ne h hb he)) hk (fun _ h => h.2)) (fun _ h => h.1)

set_option maxHeartbeats 4000000 in
set_option maxRecDepth 100000 in
theorem editor_worker_restore.calls (w0 w : World) (g : Nat) (s : St) (vk vu vr vl vf vt : Value) (lf lt : List S23) (hI : Blk w g s vk vu vr vl) (hg : w0.heap.size ≤ g) (hk : Kd.R Kd.string 9 w w0.heap.size (fun _ => True) vk s.kills)
    (hf : Kd.R k23 23 w w0.heap.size (fun k => some k ≠ vt.ownBlock) vf lf) (ht : Kd.R k23 23 w w0.heap.size (fun k => some k ≠ vf.ownBlock) vt lt) (hl1 : lf.length < 1000000) (hl2 : lt.length < 1000000) (hB : Below w0.heap.size w0 w) :
    Calls Try.prog 41 #[.pointer (some ⟨g, 0, none⟩), vf, vt] w fun e w' => ∃ v1 v2 : Value, e = .returned (.tuple #[v1, v2]) ∧ Blk w' g (if lf = [] then s else backS s lf) vk vu vr vl ∧ Kd.R Kd.string 9 w' w0.heap.size (fun _ => True) vk s.kills ∧
      Kd.R k23 23 w' w0.heap.size (fun k => some k ≠ v2.ownBlock) v1 lf.dropLast ∧ Kd.R k23 23 w' w0.heap.size (fun k => some k ≠ v1.ownBlock) v2 (if lf = [] then lt else pushS lt ⟨s.text, s.pos⟩) ∧ Below w0.heap.size w0 w' := by
  obtain ⟨c0, c1, c2, c3, c4, c5, c6, c7, c8, c9, c10, c11⟩ := hI.cells
  obtain ⟨f0, f1, f2, f3, f4, f5, f6, f7, f8, f9⟩ := hI.frozen
  have hu23 := Try.underlying23
  rcases hlf : lf with _ | ⟨z, l⟩
  · subst hlf
    obtain ⟨Af, cf, rfl⟩ := Kd.R_slice hf
    have HI := Aside0.mk hI
    have HB := Aside0.mk hB
    have HF := Aside0.mk hf
    have HT := Aside0.mk ht
    have HK := Aside0.mk hk
    clear hI hB hf ht hk
    go_enter Try.func41, Try.ntmps41
    go_wp2
    go_ret2
    exact ⟨_, _, rfl, HI.out, HK.out, HF.out, HT.out, HB.out⟩
  · rw [← hlf]
    have hp : 0 < lf.length := by rw [hlf]; simp
    have hne : ¬ lf = [] := by rw [hlf]; simp
    rw [if_neg hne, if_neg hne]
    have z0 : ((lf.length : Int) == 0) = false := by rw [beq_eq_false_iff_ne]; omega
    have z1 : (lf.length == 0) = false := by rw [beq_eq_false_iff_ne]; omega
    clear hlf hne
    obtain ⟨gf, cf, rfl, hb1, hb2, ⟨cs, hcs⟩⟩ := Kd.R_form hf hp
    obtain ⟨i013, hi013, _, hsz13, _⟩ := info_parts info23
    have hcut := cut_to (P := Try.prog) 25 23 .i64 Try.underlying25 hi013 (some ⟨gf, 0, none⟩) lf.length cf ((lf.length : Int) - 1) (by omega) (by omega) (Kd.R_reads' hf).2.1
    have hcutn : ((lf.length : Int) - 1).toNat = lf.length - 1 := by omega
    rw [hcutn] at hcut
    clear hcutn hsz13 hi013
    have HI := Aside0.mk hI
    have HB := Aside0.mk hB
    have HF := Aside0.mk hf
    have HT := Aside0.mk ht
    have HK := Aside0.mk hk
    have HU := Aside0.mk (Kd.R_tight rfl ht)
    have hnt := Kd.R_ne ht hI (by decide)
    have gne : ¬ gf = g := fun h => by have := Kd.R_ne hf hI (by decide); simp [Value.ownBlock, h] at this
    have gne2 : ¬ g = gf := fun h => gne h.symm
    clear hI hB hf ht hk
    go_enter Try.func41, Try.ntmps41
    go_wp2_with (first | (go_at_call 61; refine (editor_push.calls (fun k => some k = vt.ownBlock) vt lt s.text s.pos _ w0 w HB.out HU.out (push_f lt s.text s.pos hl2)).mono ?_; rintro e w4 ⟨v0, rfl, hr, hb, hk⟩; have H4 := (show Blk w4 g _ _ _ _ _ from blk_kept HI.out hk (fun h => hnt h)); have F4 := Kd.R_kept HF.out hk (fun k h h2 => h h2); obtain ⟨l1, l2⟩ := last_snap (Kd.R_reads' F4).2.2 hp; have p0 := H4.cells.1; have p1 := H4.cells.2.1; have p2 := H4.frozen.1; have p3 := H4.frozen.2.1; have HI4 := Aside0.mk H4; have HF4 := Aside0.mk F4; have HT4 := Aside0.mk hr; have HB4 := Aside0.mk hb; have HKP := Aside0.mk hk; clear H4 F4 hr hb hk) | (go_at_call 62; refine (editor_worker_clamp.calls w0 ((w4.setCell ⟨g, 0, none⟩ (.string (lastS lf).f0)).setCell ⟨g, 1, none⟩ (.int .i64 (lastS lf).f1)) g _ vk vu vr vl ((HI4.out.set0 (lastS lf).f0).set1 (lastS lf).f1) hg (below_set (below_set HB4.out hg) hg)).mono ?_; rintro e w5 ⟨rfl, h5, h6, h7⟩; have hkp : KeepBut w4 w5 g none := (((KeepBut.refl w4 g none).set_ 0 (.string (lastS lf).f0)).set_ 1 (.int .i64 (lastS lf).f1)).trans h7 (.inl rfl); have HI5 := Aside0.mk h5; have HB5 := Aside0.mk h6; have HKP5 := Aside0.mk hkp; clear h5 h6 h7 hkp))
    go_ret2
    have hap : ∀ k, v0.ownBlock = some k → k ≠ gf := by
      rintro k hk rfl
      rcases HT4.out.1 k hk with h | h
      · exact HF.out.1 k (by simp [Value.ownBlock]) h
      · omega
    have F5 := R_own rfl (by decide) HF4.out HI4.out HKP5.out
    have T5 := R_own rfl (by decide) HT4.out HI4.out HKP5.out
    have K4 := Kd.R_kept (Kd.R_apartR HK.out HT.out (by rw [E_string]; decide)) HKP.out (fun k h h2 => h.2 h2)
    have K5 := R_own rfl (by decide) K4 HI4.out HKP5.out
    have F6 := Kd.R_reok (ok := fun k => some k ≠ v0.ownBlock) rfl F5 (fun k hk h => hap k h.symm (by simpa [Value.ownBlock] using hk.symm))
    have F7 := Kd.R_take F6 (Nat.sub_le lf.length 1)
    rw [← List.dropLast_eq_take] at F7
    exact ⟨_, _, rfl, HI5.out, Kd.R_mono K5 (fun _ _ => trivial), F7, Kd.R_reok rfl T5 (fun k hk h => hap k hk (by simpa [Value.ownBlock] using h)), HB5.out⟩
end Go.Proofs.Ytlbbjdggebgabaa.P
end

section
/- The editor's worker: line. -/
namespace Go.Proofs.Ytlbbjdggebgabaa.P
open Go.RowKit Go.Proofs.YtlbbjdggebgabaaW.PrintWords Go.Proofs.YtlbbjdggebgabaaW.PrintLast Go.Proofs.YtlbbjdggebgabaaW.PrintMore
set_option linter.unusedVariables false
set_option linter.unusedSimpArgs false

def nthLast (l : List ByteArray) (k : Int) : ByteArray := rdOf ByteArray.empty l ((l.length : Int) - k)
def lineText (s : St) (k : Int) : ByteArray := if 0 < k then nthLast s.lines k else s.saved
def lineS (s : St) (k : Int) : St :=
  if ((lineText s k).size : Int) > 4096 then s
  else clampS { s with text := lineText s k, pos := ((lineText s k).size : Int), undo := [], redo := [], line := k, saved := if k = 0 then ⟨#[]⟩ else if s.line = 0 then s.text else s.saved }

theorem line_end {w0 w w5 : World} {g : Nat} {s s' : St} {vk vu vr vl : Value} (hI : Blk w g s vk vu vr vl) (hR : Kd.R Kd.string 9 w w0.heap.size (fun _ => True) vk s.kills) (hL : ∃ A c, vl = .slice A s.lines.length c ∧ s.lines.length ≤ c ∧ Kd.C Kd.string w0 A s.lines.length s.lines)
    (hk : KeepBut w w5 g none) (h5 : Blk w5 g s' vk (.slice none 0 0) (.slice none 0 0) vl) (e1 : s'.kills = s.kills) (e2 : s'.undo = []) (e3 : s'.redo = []) (e4 : s'.lines = s.lines) (hg : w0.heap.size ≤ g) : IsW w0 w5 g s' := by
  refine ⟨vk, _, _, vl, h5, hg, ?_, ?_, ?_, ?_⟩
  · rw [e1]; exact R_own rfl (by decide) hR hI hk
  · rw [e2]; exact Kd.R_nil _ _ _ _ _
  · rw [e3]; exact Kd.R_nil _ _ _ _ _
  · rw [e4]; exact hL

set_option maxHeartbeats 4000000 in
set_option maxRecDepth 100000 in
theorem editor_worker_line.calls (w0 w : World) (g : Nat) (s : St) (k : Int) (hI : IsW w0 w g s) (h0 : 0 ≤ k) (h1 : k ≤ s.lines.length) (hl : s.lines.length < 1000000) (hB : Below w0.heap.size w0 w) :
    Calls Try.prog 43 #[.pointer (some ⟨g, 0, none⟩), .int .i64 k] w fun e w' => e = .returned (.tuple #[]) ∧ IsW w0 w' g (lineS s k) ∧ Below w0.heap.size w0 w' := by
  obtain ⟨vk, vu, vr, vl, hb, hg, hR⟩ := id hI
  obtain ⟨c0, c1, c2, c3, c4, c5, c6, c7, c8, c9, c10, c11⟩ := hb.cells
  obtain ⟨f0, f1, f2, f3, f4, f5, f6, f7, f8, f9⟩ := hb.frozen
  have hu23 := Try.underlying23
  obtain ⟨r1, r2, r3, A, cl, rfl, hcl, hC⟩ := hR
  have HR := Aside0.mk r1
  have HL : Aside0 (∃ A' c, (.slice A s.lines.length cl : Value) = .slice A' s.lines.length c ∧ s.lines.length ≤ c ∧ Kd.C Kd.string w0 A' s.lines.length s.lines) := ⟨A, cl, rfl, hcl, hC⟩
  have HI := Aside0.mk hb
  have HW := Aside0.mk hI
  have HB := Aside0.mk hB
  obtain ⟨x, hx⟩ : ∃ z, z = lineText s k := ⟨_, rfl⟩
  unfold lineS
  rw [← hx]
  have hCw : Kd.C Kd.string w A s.lines.length s.lines := Kd.C_below hC hB
  clear hb hB r1 r2 r3 hC hI hcl
  by_cases k0 : k = 0
  · subst k0
    have hx2 : x = s.saved := by rw [hx, lineText, if_neg (by decide)]
    subst hx2
    obtain ⟨x, hx3⟩ : ∃ z, z = s.saved := ⟨_, rfl⟩
    rw [← hx3] at c9 ⊢
    have X3 := Aside0.mk hx3
    clear hx hx3 hCw
    by_cases h4 : (x.size : Int) > 4096
    · rw [if_pos h4]
      have h4b : decide (4096 < (x.size : Int)) = true := decide_eq_true h4
      have h4c : decide (4096 < x.size) = true := decide_eq_true (by omega)
      clear h4
      go_enter Try.func43, Try.ntmps43
      go_wp2
      exact bodyPost_ret (results_none rfl _ _ _) rfl ⟨rfl, HW.out, HB.out⟩
    · rw [if_neg h4]
      have h4b : decide (4096 < (x.size : Int)) = false := decide_eq_false h4
      have h4c : decide (4096 < x.size) = false := decide_eq_false (by omega)
      clear h4
      go_enter Try.func43, Try.ntmps43
      go_wp2_with (first | (go_at_call 62; have HH := ((((((HI.out.below (Below.refl _ _)).set9 (⟨#[]⟩ : ByteArray)).set8 0).set0 x).set1 (x.size : Int)).set4 [] (.slice none 0 0)).set5 [] (.slice none 0 0); have HBB := (below_set (below_set (below_set (below_set (below_set (below_set (HB.out) hg) hg) hg) hg) hg) hg : Below w0.heap.size w0 ((((((w).setCell ⟨g, 9, none⟩ (.string (⟨#[]⟩ : ByteArray))).setCell ⟨g, 8, none⟩ (.int .i64 0)).setCell ⟨g, 0, none⟩ (.string x)).setCell ⟨g, 1, none⟩ (.int .i64 (x.size : Int))).setCell ⟨g, 4, none⟩ (.slice none 0 0) |>.setCell ⟨g, 5, none⟩ (.slice none 0 0))); have HKK := ((((((((KeepBut.refl (w) g none).set_ 9 (.string (⟨#[]⟩ : ByteArray))).set_ 8 (.int .i64 0)).set_ 0 (.string x)).set_ 1 (.int .i64 (x.size : Int))).set_ 4 (.slice none 0 0)).set_ 5 (.slice none 0 0))); refine (editor_worker_clamp.calls w0 _ g _ vk _ _ _ HH hg HBB).mono ?_; rintro e w5 ⟨rfl, h5, h6, h7⟩; have HK5 := Aside0.mk (HKK.trans h7 (.inl rfl)); have H5 := Aside0.mk h5; have HB5 := Aside0.mk h6; clear HH HBB HKK h5 h6 h7))
      go_end0
      exact ⟨rfl, line_end HI.out HR.out HL.out HK5.out H5.out rfl rfl rfl rfl hg, HB5.out⟩
  · have kp : 0 < k := by omega
    have k0b : (k == 0) = false := beq_eq_false_iff_ne.mpr k0
    have kpb : decide (0 < k) = true := decide_eq_true kp
    rw [if_neg k0]
    rcases A with _ | ad
    · obtain ⟨A', c', e1, e2, e3⟩ := HL.out
      obtain ⟨ad, _, ha, _⟩ := Kd.C_get hCw ByteArray.empty 0 (by omega) (by omega)
      cases ha
    have hcell := Kd.foot_string hCw ((s.lines.length : Int) - k) (by omega) (by omega)
    rw [show rdOf ByteArray.empty s.lines ((s.lines.length : Int) - k) = x by rw [hx, lineText, if_pos kp, nthLast]] at hcell
    clear hx hCw k0
    by_cases h4 : (x.size : Int) > 4096
    · rw [if_pos h4]
      have h4b : decide (4096 < (x.size : Int)) = true := decide_eq_true h4
      have h4c : decide (4096 < x.size) = true := decide_eq_true (by omega)
      clear h4
      go_enter Try.func43, Try.ntmps43
      go_wp2
      go_quiet (fail)
      go_wp2
      exact bodyPost_ret (results_none rfl _ _ _) rfl ⟨rfl, HW.out.below (pw_below_drewN (Below.refl _ _) nq), pw_below_drewN HB.out nq⟩
    · rw [if_neg h4]
      have h4b : decide (4096 < (x.size : Int)) = false := decide_eq_false h4
      have h4c : decide (4096 < x.size) = false := decide_eq_false (by omega)
      clear h4
      by_cases h5 : s.line = 0
      · rw [if_pos h5]
        have h5b : (s.line == 0) = true := beq_iff_eq.mpr h5
        clear h5
        go_enter Try.func43, Try.ntmps43
        go_wp2
        go_quiet (fail)
        go_wp2_with (first | (go_at_call 62; have HH := ((((((HI.out.below (pw_below_drewN (Below.refl _ _) nq)).set9 s.text).set8 k).set0 x).set1 (x.size : Int)).set4 [] (.slice none 0 0)).set5 [] (.slice none 0 0); have HBB := (below_set (below_set (below_set (below_set (below_set (below_set (pw_below_drewN HB.out nq) hg) hg) hg) hg) hg) hg : Below w0.heap.size w0 ((((((w.drewN nq).setCell ⟨g, 9, none⟩ (.string s.text)).setCell ⟨g, 8, none⟩ (.int .i64 k)).setCell ⟨g, 0, none⟩ (.string x)).setCell ⟨g, 1, none⟩ (.int .i64 (x.size : Int))).setCell ⟨g, 4, none⟩ (.slice none 0 0) |>.setCell ⟨g, 5, none⟩ (.slice none 0 0))); have HKK := ((((((((KeepBut.refl (w.drewN nq) g none).set_ 9 (.string s.text)).set_ 8 (.int .i64 k)).set_ 0 (.string x)).set_ 1 (.int .i64 (x.size : Int))).set_ 4 (.slice none 0 0)).set_ 5 (.slice none 0 0))); refine (editor_worker_clamp.calls w0 _ g _ vk _ _ _ HH hg HBB).mono ?_; rintro e w5 ⟨rfl, h5, h6, h7⟩; have HK5 := Aside0.mk (HKK.trans h7 (.inl rfl)); have H5 := Aside0.mk h5; have HB5 := Aside0.mk h6; clear HH HBB HKK h5 h6 h7))
        go_end0
        exact ⟨rfl, line_end (HI.out.below (pw_below_drewN (Below.refl _ _) nq)) (Kd.R_drewN HR.out nq) HL.out HK5.out H5.out rfl rfl rfl rfl hg, HB5.out⟩
      · rw [if_neg h5]
        have h5b : (s.line == 0) = false := beq_eq_false_iff_ne.mpr h5
        clear h5
        go_enter Try.func43, Try.ntmps43
        go_wp2
        go_quiet (fail)
        go_wp2_with (first | (go_at_call 62; have HH := ((((((HI.out.below (pw_below_drewN (Below.refl _ _) nq))).set8 k).set0 x).set1 (x.size : Int)).set4 [] (.slice none 0 0)).set5 [] (.slice none 0 0); have HBB := (below_set (below_set (below_set (below_set (below_set (pw_below_drewN HB.out nq) hg) hg) hg) hg) hg : Below w0.heap.size w0 ((((((w.drewN nq)).setCell ⟨g, 8, none⟩ (.int .i64 k)).setCell ⟨g, 0, none⟩ (.string x)).setCell ⟨g, 1, none⟩ (.int .i64 (x.size : Int))).setCell ⟨g, 4, none⟩ (.slice none 0 0) |>.setCell ⟨g, 5, none⟩ (.slice none 0 0))); have HKK := (((((((KeepBut.refl (w.drewN nq) g none).set_ 8 (.int .i64 k)).set_ 0 (.string x)).set_ 1 (.int .i64 (x.size : Int))).set_ 4 (.slice none 0 0)).set_ 5 (.slice none 0 0))); refine (editor_worker_clamp.calls w0 _ g _ vk _ _ _ HH hg HBB).mono ?_; rintro e w5 ⟨rfl, h5, h6, h7⟩; have HK5 := Aside0.mk (HKK.trans h7 (.inl rfl)); have H5 := Aside0.mk h5; have HB5 := Aside0.mk h6; clear HH HBB HKK h5 h6 h7))
        go_end0
        exact ⟨rfl, line_end (HI.out.below (pw_below_drewN (Below.refl _ _) nq)) (Kd.R_drewN HR.out nq) HL.out HK5.out H5.out rfl rfl rfl rfl hg, HB5.out⟩
end Go.Proofs.Ytlbbjdggebgabaa.P
end

section
/- The editor's worker: rotate. -/
namespace Go.Proofs.Ytlbbjdggebgabaa.P
open Go.RowKit Go.Proofs.YtlbbjdggebgabaaW.PrintWords Go.Proofs.YtlbbjdggebgabaaW.PrintLast Go.Proofs.YtlbbjdggebgabaaW.PrintMore
set_option linter.unusedVariables false
set_option linter.unusedSimpArgs false

def rotFrom (s : St) : Int := s.pos - ((lastOf s.kills).size : Int)
def rotates (s : St) : Bool := (s.last == 15 || s.last == 16) && decide (2 ≤ s.kills.length) && decide (0 ≤ rotFrom s) && decide ((s.text.extract (rotFrom s).toNat s.pos.toNat).toList = (lastOf s.kills).toList)
def rotSet (s : St) : St × Bool := setS s 16 ((s.text.extract 0 (rotFrom s).toNat ++ lastOf s.kills.dropLast) ++ s.text.extract s.pos.toNat s.text.size) (rotFrom s + ((lastOf s.kills.dropLast).size : Int))
def rotateS (s : St) : St :=
  if rotates s then (if (rotSet s).2 then { (rotSet s).1 with kills := [lastOf s.kills] ++ s.kills.take (s.kills.length - 1) } else (rotSet s).1) else s
theorem prev_cell {w : World} {base gk n1 : Nat} {ok : Nat → Prop} {l : List ByteArray} (h : Kd.R Kd.string 9 w base ok (.slice (some ⟨gk, 0, none⟩) l.length n1) l) (hp : 2 ≤ l.length) :
    w.cell? ⟨gk, l.length - 2, none⟩ = some (.string (lastOf l.dropLast)) := by
  have e : ((l.length : Int) - 2).toNat = l.length - 2 := by omega
  have := (Kd.R_cell ByteArray.empty h ((l.length : Int) - 2) (by omega) (by omega)).1
  rw [e] at this
  rw [this]
  unfold rdOf lastOf
  rw [e]
  rcases List.eq_nil_or_concat l with rfl | ⟨a, b, rfl⟩
  · simp at hp
  · rcases List.eq_nil_or_concat a with rfl | ⟨a2, b2, rfl⟩
    · simp at hp
    · simp

/-- A new row of one string. -/
theorem lit_one (w : World) (x : ByteArray) {base : Nat} (hb : base ≤ w.heap.size) : Kd.R Kd.string 9 (w.alloc (.cells #[.string x] 9)) base (fun _ => True) (.slice (some ⟨w.heap.size, 0, none⟩) 1 1) [x] :=
  Kd.R_of_own (enc := Value.string) (h1 := fun _ => rfl) (by simpa [encs] using World.ownsRow_lit (base := base) (e := 9) (size := 1) w #[.string x] 1 hb (by decide) rfl) (fun _ _ => trivial)

set_option maxHeartbeats 16000000 in
set_option maxRecDepth 100000 in
theorem editor_worker_rotate.calls (w0 w : World) (g : Nat) (s : St) (hI : IsW w0 w g s) (hu : s.undo.length < 1000000) (hk : s.kills.length < 1000000) (hks : ∀ k ∈ s.kills, k.size ≤ 1000000) (h0 : 0 ≤ s.pos) (h1 : s.pos ≤ s.text.size) (hs : s.text.size ≤ 1000000) (hB : Below w0.heap.size w0 w) :
    Calls Try.prog 40 #[.pointer (some ⟨g, 0, none⟩)] w fun e w' => e = .returned (.tuple #[]) ∧ IsW w0 w' g (rotateS s) ∧ Below w0.heap.size w0 w' := by
  obtain ⟨vk, vu, vr, vl, hb, hg, hR⟩ := id hI
  obtain ⟨c0, c1, c2, c3, c4, c5, c6, c7, c8, c9, c10, c11⟩ := hb.cells
  obtain ⟨Ak, n1, rfl⟩ := Kd.R_slice hR.1
  have form : 2 ≤ s.kills.length → ∃ gk, Ak = some ⟨gk, 0, none⟩ ∧ w.cell? ⟨gk, s.kills.length - 1, none⟩ = some (.string (lastOf s.kills)) ∧ w.cell? ⟨gk, s.kills.length - 2, none⟩ = some (.string (lastOf s.kills.dropLast)) := by
    intro h
    obtain ⟨gk, n2, he, _⟩ := Kd.R_form hR.1 (by omega)
    injection he with e1 e2 e3
    subst e1
    exact ⟨gk, rfl, (last_cell hR.1 (by omega)).1, prev_cell hR.1 h⟩
  have HR := Aside0.mk hR
  have HW := Aside0.mk hI
  have HI := Aside0.mk hb
  have HB := Aside0.mk hB
  unfold rotateS
  by_cases hr : rotates s = true
  · rw [if_pos hr]
    have hr2 : ((s.last != 15) = false ∨ ((s.last != 15) = true ∧ (s.last != 16) = false)) ∧ 2 ≤ s.kills.length ∧ 0 ≤ rotFrom s ∧ (s.text.extract (rotFrom s).toNat s.pos.toNat).toList = (lastOf s.kills).toList := by
      unfold rotates at hr
      by_cases l1 : s.last = 15 <;> by_cases l2 : s.last = 16 <;> by_cases l3 : 2 ≤ s.kills.length <;> by_cases l4 : 0 ≤ rotFrom s <;> simp_all
    obtain ⟨a, b, c, d⟩ := hr2
    have hF0 : rotFrom s = s.pos - ((lastOf s.kills).size : Int) := rfl
    obtain ⟨F, hF⟩ : ∃ F, s.pos - ((lastOf s.kills).size : Int) = F := ⟨_, rfl⟩
    have HRS : Aside0 (rotSet s = setS s 16 ((s.text.extract 0 F.toNat ++ lastOf s.kills.dropLast) ++ s.text.extract s.pos.toNat s.text.size) (F + ((lastOf s.kills.dropLast).size : Int))) := ⟨by unfold rotSet; rw [hF0, hF]⟩
    rw [hF0, hF] at c d
    have d2 : ((s.text.extract F.toNat s.pos.toNat).toList != (lastOf s.kills).toList) = false := bne_eq_false_iff_eq.mpr d
    have d3 : ((s.text.extract F.toNat s.pos.toNat).toList == (lastOf s.kills).toList) = true := beq_iff_eq.mpr d
    have d4 : (!((s.text.extract F.toNat s.pos.toNat).toList == (lastOf s.kills).toList)) = false := by rw [d3]; rfl
    have b1 : decide ((s.kills.length : Int) < 2) = false := decide_eq_false (by omega)
    have b2 : decide (s.kills.length < 2) = false := decide_eq_false (by omega)
    have c1 : decide (F < 0) = false := decide_eq_false (by omega)
    have c2' : F ≤ s.pos := by omega
    have c3' : F ≤ (s.text.size : Int) := by omega
    have hls : (lastOf s.kills).size ≤ 1000000 := hks _ (last_mem (by omega))
    have hps : (lastOf s.kills.dropLast).size ≤ 1000000 := hks _ (List.dropLast_subset _ (last_mem (by rw [List.length_dropLast]; omega)))
    have q1 : F.toNat + (lastOf s.kills.dropLast).size ≤ 9223372036854775807 := by omega
    have q2 : F.toNat + (lastOf s.kills.dropLast).size + (s.text.size - s.pos.toNat) ≤ 9223372036854775807 := by omega
    have q1b := eq_false (Nat.not_lt.2 q1)
    have q2b := eq_false (Nat.not_lt.2 q2)
    obtain ⟨gk, rfl, hlast, hprev⟩ := form b
    clear hr d hB hb hI hR form
    by_cases hok : (rotSet s).2 = true
    · rw [if_pos hok]
      have hok2 : (rotSet s).2 = true := hok
      obtain ⟨s1, hs1⟩ : ∃ z, z = (rotSet s).1 := ⟨_, rfl⟩
      have e1 : s1.kills = s.kills := by rw [hs1]; exact (setS_keep s 16 _ _).1
      rw [← hs1]
      have S1 := Aside0.mk hs1
      have E1 := Aside0.mk e1
      obtain ⟨y, hy⟩ : ∃ z, z = [lastOf s.kills] ++ s.kills.take (s.kills.length - 1) := ⟨_, rfl⟩
      rw [← hy]
      have Y1 := Aside0.mk hy
      clear hy
      obtain ⟨i013, hi013, _, hsz13, _⟩ := info_parts info9
      have hcutn : ((s.kills.length : Int) - 1).toNat = s.kills.length - 1 := by omega
      clear hs1 e1 hok hsz13
      rcases a with a | ⟨a, a'⟩
      all_goals
        go_enter Try.func40, Try.ntmps40
        go_wp2
        go_region
        go_wp2
        go_still_tail 14, (by kernel_rfl)
        change wpList _ _ _ _ _ w.drew.drew
        go_wp2_with (first | (go_at_call 59; refine (editor_worker_set.calls w0 w.drew.drew g s 16 ((s.text.extract 0 F.toNat ++ lastOf s.kills.dropLast) ++ s.text.extract s.pos.toNat s.text.size) (F + ((lastOf s.kills.dropLast).size : Int)) (HW.out.below (below_drew (below_drew (Below.refl _ _)))) hu (below_drew (below_drew HB.out))).mono ?_; rw [← HRS.out, hok2]; rintro e w4 ⟨rfl, h5, h6⟩; rw [← S1.out] at h5; obtain ⟨vk1, vu1, vr1, vl1, H1, hg1, R1⟩ := h5; obtain ⟨A1, n2, rfl⟩ := Kd.R_slice R1.1; have p3 : w4.cell? ⟨g, 3, none⟩ = some (.slice A1 s.kills.length n2) := (by rw [← E1.out]; exact H1.cells.2.2.2.1); have R1k : Kd.R Kd.string 9 w4 w0.heap.size (fun _ => True) (.slice A1 s.kills.length n2) s.kills := (by have h := R1.1; rw [E1.out] at h; exact h); have hcut := cut_to (P := Try.prog) 24 9 .i64 Try.underlying24 hi013 A1 s.kills.length n2 ((s.kills.length : Int) - 1) (by omega) (by omega) (Kd.R_reads' R1k).2.1; rw [hcutn] at hcut; have RK1 := Aside0.mk R1k; have HI1 := Aside0.mk H1; have HR1 := Aside0.mk R1; have HB1 := Aside0.mk h6; have hAB : Below w4.heap.size w4 (w4.alloc (.cells #[.string (lastOf s.kills)] 9)) := below_alloc (Below.refl _ _) _; have HI6 := Aside0.mk (HI1.out.below hAB); have RK6 := Aside0.mk (Kd.R_below RK1.out hAB); have HR6 := Aside0.mk (HR1.out.below hAB); have HB6 := Aside0.mk (below_step HB1.out hAB); have HO6 := Aside0.mk (lit_one w4 (lastOf s.kills) h6.size); have p6 : (w4.alloc (.cells #[.string (lastOf s.kills)] 9)).cell? ⟨g, 3, none⟩ = some (.slice A1 s.kills.length n2) := (by have h := HI6.out.cells.2.2.2.1; rw [E1.out] at h; exact h); have p7 := HI6.out.frozen.2.2.2.1; clear R1k H1 R1 h6 hg1 hAB) | ((with_reducible refine gate_builtin (b := .append) (xs := #[.tmp 93, .tmp 101]) rfl ?_); at_builtin; refine Kd.R_append_rows Kd.string (w0 := w0) w0.heap.size rfl (.tmp 93) (.tmp 101) 24 9 (.string ⟨#[]⟩) 16 rfl Try.underlying24 info9 rfl (by decide) (by omega) (.slice (some ⟨w4.heap.size, 0, none⟩) 1 1) [lastOf s.kills] (s.kills.take (s.kills.length - 1)) A1 (s.kills.length - 1) n2 (fun _ => True) (fun _ => False) rfl rfl ?aO ?aR (fun _ _ h => h) (fun _ h => h.elim) (fun _ _ => trivial) ?aB ?aS ?aL ?_; (case aR => (have h := Kd.R_reads' (Kd.R_take RK6.out (Nat.sub_le s.kills.length 1)); have h3 := h.2.2; rw [← h.1] at h3; exact h3)); (case aO => exact HO6.out); (case aB => exact HB6.out); (case aS => exact HB6.out.size); (case aL => simp only [List.length_cons, List.length_nil]; omega); intro v7 w7 ho7 hb7 hg7 hat7; rw [← Y1.out] at ho7; have HI7 := Aside0.mk (show Blk w7 g _ _ _ _ _ from blk_grown HI6.out hg7 (Kd.R_ne HO6.out HI6.out (by decide))); have HU7 := Aside0.mk (Kd.R_over HR6.out.2.1 HO6.out (by rw [E_k23]; decide) hg7); have HV7 := Aside0.mk (Kd.R_over HR6.out.2.2.1 HO6.out (by rw [E_k23]; decide) hg7); obtain ⟨A7, n7, rfl⟩ := Kd.R_slice ho7; have p8 := HI7.out.cells.2.2.2.1; have p9 := HI7.out.frozen.2.2.2.1; have HK7 := Aside0.mk ho7; have HB7 := Aside0.mk hb7; clear ho7 hb7 hg7 hat7))
        go_end0
        have R7 : Rows w0 w7 { s1 with kills := y } (.slice A7 y.length n7) vu1 vr1 vl1 := ⟨HK7.out, HU7.out, HV7.out, HR6.out.2.2.2⟩
        exact ⟨rfl, ⟨_, vu1, vr1, vl1, HI7.out.set3 y _, hg, R7.set HI7.out 3 _⟩, below_set HB7.out hg⟩
    · rw [if_neg hok]
      have hok2 : (rotSet s).2 = false := by simpa using hok
      rcases a with a | ⟨a, a'⟩
      all_goals
        go_enter Try.func40, Try.ntmps40
        go_wp2
        go_region
        go_wp2
        go_still_tail 14, (by kernel_rfl)
        change wpList _ _ _ _ _ w.drew.drew
        go_wp2_with (first | (go_at_call 59; refine (editor_worker_set.calls w0 w.drew.drew g s 16 ((s.text.extract 0 F.toNat ++ lastOf s.kills.dropLast) ++ s.text.extract s.pos.toNat s.text.size) (F + ((lastOf s.kills.dropLast).size : Int)) (HW.out.below (below_drew (below_drew (Below.refl _ _)))) hu (below_drew (below_drew HB.out))).mono ?_; rw [← HRS.out, hok2]; rintro e w4 ⟨rfl, h5, h6⟩; have H5 := Aside0.mk h5; have H6 := Aside0.mk h6; clear h5 h6))
        go_end0
        exact ⟨rfl, H5.out, H6.out⟩
  · rw [if_neg hr]
    have hcase : ((s.last != 15) = true ∧ (s.last != 16) = true) ∨ (((s.last != 15) = false ∨ ((s.last != 15) = true ∧ (s.last != 16) = false)) ∧ s.kills.length < 2) ∨ (((s.last != 15) = false ∨ ((s.last != 15) = true ∧ (s.last != 16) = false)) ∧ 2 ≤ s.kills.length ∧ rotFrom s < 0) ∨
        (((s.last != 15) = false ∨ ((s.last != 15) = true ∧ (s.last != 16) = false)) ∧ 2 ≤ s.kills.length ∧ 0 ≤ rotFrom s ∧ ((s.text.extract (rotFrom s).toNat s.pos.toNat).toList != (lastOf s.kills).toList) = true) := by
      unfold rotates at hr
      by_cases l1 : s.last = 15 <;> by_cases l2 : s.last = 16 <;> by_cases l3 : 2 ≤ s.kills.length <;> by_cases l4 : 0 ≤ rotFrom s <;> simp_all <;> omega
    clear hr hB hb hI hR
    rcases hcase with ⟨a1, a2⟩ | ⟨a, b⟩ | ⟨a, b, c⟩ | ⟨a, b, c, d⟩
    · go_enter Try.func40, Try.ntmps40
      go_wp2
      exact bodyPost_ret (results_none rfl _ _ _) rfl ⟨rfl, HW.out, HB.out⟩
    · have b1 : decide ((s.kills.length : Int) < 2) = true := decide_eq_true (by omega)
      have b2 : decide (s.kills.length < 2) = true := decide_eq_true b
      rcases a with a | ⟨a, a'⟩
      all_goals
        go_enter Try.func40, Try.ntmps40
        go_wp2
        exact bodyPost_ret (results_none rfl _ _ _) rfl ⟨rfl, HW.out, HB.out⟩
    · have b1 : decide ((s.kills.length : Int) < 2) = false := decide_eq_false (by omega)
      have b2 : decide (s.kills.length < 2) = false := decide_eq_false (by omega)
      have hF0 : rotFrom s = s.pos - ((lastOf s.kills).size : Int) := rfl
      obtain ⟨F, hF⟩ : ∃ F, s.pos - ((lastOf s.kills).size : Int) = F := ⟨_, rfl⟩
      rw [hF0, hF] at c
      have c1 : decide (F < 0) = true := decide_eq_true c
      have hls : (lastOf s.kills).size ≤ 1000000 := hks _ (last_mem (by omega))
      obtain ⟨gk, rfl, hlast, hprev⟩ := form b
      rcases a with a | ⟨a, a'⟩
      all_goals
        go_enter Try.func40, Try.ntmps40
        go_wp2
        go_region
        go_wp2
        exact bodyPost_ret (results_none rfl _ _ _) rfl ⟨rfl, HW.out, below_drew HB.out⟩
    · have b1 : decide ((s.kills.length : Int) < 2) = false := decide_eq_false (by omega)
      have b2 : decide (s.kills.length < 2) = false := decide_eq_false (by omega)
      have hF0 : rotFrom s = s.pos - ((lastOf s.kills).size : Int) := rfl
      obtain ⟨F, hF⟩ : ∃ F, s.pos - ((lastOf s.kills).size : Int) = F := ⟨_, rfl⟩
      rw [hF0, hF] at c d
      have d3 : ((s.text.extract F.toNat s.pos.toNat).toList == (lastOf s.kills).toList) = false := beq_eq_false_iff_ne.mpr (bne_iff_ne.mp d)
      have d4 : (!((s.text.extract F.toNat s.pos.toNat).toList == (lastOf s.kills).toList)) = true := by rw [d3]; rfl
      have c1 : decide (F < 0) = false := decide_eq_false (by omega)
      have c2' : F ≤ s.pos := by omega
      have hls : (lastOf s.kills).size ≤ 1000000 := hks _ (last_mem (by omega))
      obtain ⟨gk, rfl, hlast, hprev⟩ := form b
      rcases a with a | ⟨a, a'⟩
      all_goals
        go_enter Try.func40, Try.ntmps40
        go_wp2
        go_region
        go_wp2
        exact bodyPost_ret (results_none rfl _ _ _) rfl ⟨rfl, HW.out, below_drew HB.out⟩
end Go.Proofs.Ytlbbjdggebgabaa.P
end
