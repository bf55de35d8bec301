/- The law EditorDoes: its walk. -/
import Derived.Test.YtlbbjdggebgabaaRDM7
import Derived.Test.YtlbbjdggebgabaaRDM12
import Derived.Test.YtlbbjdggebgabaaRDM6
import Derived.Deep.RegionHeld3
namespace Go.Proofs.Ytlbbjdggebgabaa.P
open Go.RowKit Go.Proofs.YtlbbjdggebgabaaW.PrintWords Go.Proofs.YtlbbjdggebgabaaW.PrintLast Go.Proofs.YtlbbjdggebgabaaW.PrintMore
set_option linter.unusedVariables false
set_option linter.unusedSimpArgs false

/-- A box that holds an editor as it came. -/
def CBox (W : World) (g : Nat) (s : St) (vk vu vr : Value) : Prop := W.heap[g]? = some (.cells #[.string s.text, .int .i64 s.pos, .int .i64 s.mark, vk, vu, vr, .string s.keys, .int .i64 s.last, .int .i64 s.line, .string s.saved] 27 (0, 0))
theorem dS {w6 W : World} {g g1 g2 gx : Nat} {y0 y1 y2 y3 y4 y5 y6 y7 y8 y9 z0 z1 z2 z3 z4 z5 z6 z7 z8 z9 u0 u1 t0 t1 : Value} (h : w6.heap[g]? = some (.cells #[y0, y1, y2, y3, y4, y5, y6, y7, y8, y9] 27 (0, 0))) (hx : w6.heap[gx]? = some (.cells #[z0, z1, z2, z3, z4, z5, z6, z7, z8, z9] 27 (0, 0))) (hc : w6.heap[g1]? = some (.cells #[u0, u1] 36 (0, 0))) (hh : w6.heap[g2]? = some (.cells #[t0, t1] 38 (0, 0))) (hb : Below w6.heap.size w6 W) :
    Aside0 (Below w6.heap.size w6 W) ∧ (W.cell? ⟨g, 0, none⟩ = some (y0) ∧ W.cell? ⟨g, 1, none⟩ = some (y1) ∧ W.cell? ⟨g, 2, none⟩ = some (y2) ∧ W.cell? ⟨g, 3, none⟩ = some (y3) ∧ W.cell? ⟨g, 4, none⟩ = some (y4) ∧ W.cell? ⟨g, 5, none⟩ = some (y5) ∧ W.cell? ⟨g, 6, none⟩ = some (y6) ∧ W.cell? ⟨g, 7, none⟩ = some (y7) ∧ W.cell? ⟨g, 8, none⟩ = some (y8) ∧ W.cell? ⟨g, 9, none⟩ = some (y9)) ∧ (W.cell? ⟨gx, 0, none⟩ = some (z0) ∧ W.cell? ⟨gx, 1, none⟩ = some (z1) ∧ W.cell? ⟨gx, 2, none⟩ = some (z2) ∧ W.cell? ⟨gx, 3, none⟩ = some (z3) ∧ W.cell? ⟨gx, 4, none⟩ = some (z4) ∧ W.cell? ⟨gx, 5, none⟩ = some (z5) ∧ W.cell? ⟨gx, 6, none⟩ = some (z6) ∧ W.cell? ⟨gx, 7, none⟩ = some (z7) ∧ W.cell? ⟨gx, 8, none⟩ = some (z8) ∧ W.cell? ⟨gx, 9, none⟩ = some (z9)) ∧ (W.cell? ⟨g1, 0, none⟩ = some u0 ∧ W.cell? ⟨g1, 1, none⟩ = some u1) ∧ (W.cell? ⟨g2, 0, none⟩ = some t0 ∧ W.cell? ⟨g2, 1, none⟩ = some t1) := by
  have h1 := blk_below h hb
  have h2 := blk_below hx hb
  have h3 := blk_below hc hb
  have h4 := blk_below hh hb
  exact ⟨⟨hb⟩, ⟨(blk_cell h1 0).trans rfl, (blk_cell h1 1).trans rfl, (blk_cell h1 2).trans rfl, (blk_cell h1 3).trans rfl, (blk_cell h1 4).trans rfl, (blk_cell h1 5).trans rfl, (blk_cell h1 6).trans rfl, (blk_cell h1 7).trans rfl, (blk_cell h1 8).trans rfl, (blk_cell h1 9).trans rfl⟩, ⟨(blk_cell h2 0).trans rfl, (blk_cell h2 1).trans rfl, (blk_cell h2 2).trans rfl, (blk_cell h2 3).trans rfl, (blk_cell h2 4).trans rfl, (blk_cell h2 5).trans rfl, (blk_cell h2 6).trans rfl, (blk_cell h2 7).trans rfl, (blk_cell h2 8).trans rfl, (blk_cell h2 9).trans rfl⟩, ⟨(blk_cell h3 0).trans rfl, (blk_cell h3 1).trans rfl⟩, ⟨(blk_cell h4 0).trans rfl, (blk_cell h4 1).trans rfl⟩⟩

set_option maxHeartbeats 32000000 in
set_option maxRecDepth 100000 in
theorem does_walk (w : World) (s : St) (a : Int) (x : ByteArray) (Ak Au Ar Al : Option Addr) (ck cu cr cl : Nat) (hs : Held s) (h1 : Kd.C Kd.string w Ak s.kills.length s.kills) (h1c : s.kills.length ≤ ck) (h2 : Kd.C k23 w Au s.undo.length s.undo) (h2c : s.undo.length ≤ cu) (h3 : Kd.C k23 w Ar s.redo.length s.redo) (h3c : s.redo.length ≤ cr) (h5 : Kd.C Kd.string w Al s.lines.length s.lines) (hlc : s.lines.length ≤ cl) :
    Calls Try.prog 4 #[.agg #[.string s.text, .int .i64 s.pos, .int .i64 s.mark, .slice Ak s.kills.length ck, .slice Au s.undo.length cu, .slice Ar s.redo.length cr, .string s.keys, .int .i64 s.last, .int .i64 s.line, .string s.saved], .agg #[.int .i64 a, .string x], .agg #[.int .i64 s.off, .slice Al s.lines.length cl]] w fun e w' => e = .returned (.bool true) ∧ Below w.heap.size w w' := by
  have hu27 := Try.underlying27
  have hu38 := Try.underlying38
  have hu36 := Try.underlying36
  have hu23 := Try.underlying23
  obtain ⟨rf, hf, hfi⟩ := few_f s hs
  obtain ⟨rl, hl, hli⟩ := lines_f s.off s.lines
  obtain ⟨w1, hw1⟩ : ∃ z, z = ((w.alloc (.cells #[.string s.text, .int .i64 s.pos, .int .i64 s.mark, .slice Ak s.kills.length ck, .slice Au s.undo.length cu, .slice Ar s.redo.length cr, .string s.keys, .int .i64 s.last, .int .i64 s.line, .string s.saved] 27)).alloc (.cells #[.int .i64 a, .string x] 36)).alloc (.cells #[.int .i64 s.off, .slice Al s.lines.length cl] 38) := ⟨_, rfl⟩
  have HI := Aside0.mk (show CBox w1 w.heap.size s (.slice Ak s.kills.length ck) (.slice Au s.undo.length cu) (.slice Ar s.redo.length cr) ∧ w1.heap[w.heap.size + 1]? = some (.cells #[.int .i64 a, .string x] 36 (0, 0)) ∧ w1.heap[w.heap.size + 1 + 1]? = some (.cells #[.int .i64 s.off, .slice Al s.lines.length cl] 38 (0, 0)) ∧ Below w.heap.size w w1 from by rw [hw1]; exact ⟨blk_alloc (blk_alloc (blk_new w _) _) _, blk_alloc (blk_new2 w _ _ _) _, blk_new3 w _ _ _ _, below_alloc (below_alloc (below_alloc (Below.refl _ _) _) _) _⟩)
  have K1 := Aside0.mk h1
  have K2 := Aside0.mk h2
  have K3 := Aside0.mk h3
  have K4 := Aside0.mk h5
  have HW1 := Aside0.mk hw1
  have HF := Aside0.mk hf
  have HL := Aside0.mk hl
  clear hw1 h1 h2 h3 h5 hf hl hs
  cases rf
  · clear hfi hli
    go_enter Try.func4, Try.ntmps4
    go_wp2_with (fail)
    rw [← HW1.out]
    refine (jobshelllaw46_few.calls 1000 s.text s.pos s.mark Ak ck s.kills Au cu s.undo Ar cr s.redo s.keys s.last s.line s.saved false w1 (Kd.C_below K1.out HI.out.2.2.2) h1c (Kd.C_below K2.out HI.out.2.2.2) h2c (Kd.C_below K3.out HI.out.2.2.2) h3c HF.out).mono ?_
    rintro e w2 ⟨rfl, hb⟩
    have HI' := Aside0.mk (show CBox w2 w.heap.size s (.slice Ak s.kills.length ck) (.slice Au s.undo.length cu) (.slice Ar s.redo.length cr) ∧ w2.heap[w.heap.size + 1]? = some (.cells #[.int .i64 a, .string x] 36 (0, 0)) ∧ w2.heap[w.heap.size + 1 + 1]? = some (.cells #[.int .i64 s.off, .slice Al s.lines.length cl] 38 (0, 0)) ∧ Below w.heap.size w w2 from ⟨blk_below HI.out.1 hb, blk_below HI.out.2.1 hb, blk_below HI.out.2.2.1 hb, below_step HI.out.2.2.2 hb⟩)
    clear HI
    have HI := HI'
    clear HI' hb
    have e_ := HI.out.1
    have e0 := (blk_cell e_ 0).trans rfl
    have e1 := (blk_cell e_ 1).trans rfl
    have e2 := (blk_cell e_ 2).trans rfl
    have e3 := (blk_cell e_ 3).trans rfl
    have e4 := (blk_cell e_ 4).trans rfl
    have e5 := (blk_cell e_ 5).trans rfl
    have e6 := (blk_cell e_ 6).trans rfl
    have e7 := (blk_cell e_ 7).trans rfl
    have e8 := (blk_cell e_ 8).trans rfl
    have e9 := (blk_cell e_ 9).trans rfl
    have q0 := (blk_cell HI.out.2.1 0).trans rfl
    have q1 := (blk_cell HI.out.2.1 1).trans rfl
    have h0 := (blk_cell HI.out.2.2.1 0).trans rfl
    have h1 := (blk_cell HI.out.2.2.1 1).trans rfl
    clear e_
    go_wp2_with (fail)
    refine (awake_calls w2).mono ?_
    rintro e wz ⟨rfl, hb⟩
    have HZ := Aside0.mk (below_step HI.out.2.2.2 hb)
    clear hb
    go_wp2_with (fail)
    go_ret
    exact ⟨rfl, HZ.out⟩
  · cases rl
    · clear hfi hli
      go_enter Try.func4, Try.ntmps4
      go_wp2_with (fail)
      rw [← HW1.out]
      refine (jobshelllaw46_few.calls 1000 s.text s.pos s.mark Ak ck s.kills Au cu s.undo Ar cr s.redo s.keys s.last s.line s.saved true w1 (Kd.C_below K1.out HI.out.2.2.2) h1c (Kd.C_below K2.out HI.out.2.2.2) h2c (Kd.C_below K3.out HI.out.2.2.2) h3c HF.out).mono ?_
      rintro e w2 ⟨rfl, hb⟩
      have HI' := Aside0.mk (show CBox w2 w.heap.size s (.slice Ak s.kills.length ck) (.slice Au s.undo.length cu) (.slice Ar s.redo.length cr) ∧ w2.heap[w.heap.size + 1]? = some (.cells #[.int .i64 a, .string x] 36 (0, 0)) ∧ w2.heap[w.heap.size + 1 + 1]? = some (.cells #[.int .i64 s.off, .slice Al s.lines.length cl] 38 (0, 0)) ∧ Below w.heap.size w w2 from ⟨blk_below HI.out.1 hb, blk_below HI.out.2.1 hb, blk_below HI.out.2.2.1 hb, below_step HI.out.2.2.2 hb⟩)
      clear HI
      have HI := HI'
      clear HI' hb
      have e_ := HI.out.1
      have e0 := (blk_cell e_ 0).trans rfl
      have e1 := (blk_cell e_ 1).trans rfl
      have e2 := (blk_cell e_ 2).trans rfl
      have e3 := (blk_cell e_ 3).trans rfl
      have e4 := (blk_cell e_ 4).trans rfl
      have e5 := (blk_cell e_ 5).trans rfl
      have e6 := (blk_cell e_ 6).trans rfl
      have e7 := (blk_cell e_ 7).trans rfl
      have e8 := (blk_cell e_ 8).trans rfl
      have e9 := (blk_cell e_ 9).trans rfl
      have q0 := (blk_cell HI.out.2.1 0).trans rfl
      have q1 := (blk_cell HI.out.2.1 1).trans rfl
      have h0 := (blk_cell HI.out.2.2.1 0).trans rfl
      have h1 := (blk_cell HI.out.2.2.1 1).trans rfl
      clear e_
      go_wp2_with (fail)
      refine (jobshelllaw46_lines.calls 1000 s.off Al cl s.lines false w2 (Kd.C_below K4.out HI.out.2.2.2) hlc HL.out).mono ?_
      rintro e w3 ⟨rfl, hb⟩
      have HI' := Aside0.mk (show CBox w3 w.heap.size s (.slice Ak s.kills.length ck) (.slice Au s.undo.length cu) (.slice Ar s.redo.length cr) ∧ w3.heap[w.heap.size + 1]? = some (.cells #[.int .i64 a, .string x] 36 (0, 0)) ∧ w3.heap[w.heap.size + 1 + 1]? = some (.cells #[.int .i64 s.off, .slice Al s.lines.length cl] 38 (0, 0)) ∧ Below w.heap.size w w3 from ⟨blk_below HI.out.1 hb, blk_below HI.out.2.1 hb, blk_below HI.out.2.2.1 hb, below_step HI.out.2.2.2 hb⟩)
      clear HI
      have HI := HI'
      clear HI' hb
      clear e0 e1 e2 e3 e4 e5 e6 e7 e8 e9 q0 q1 h0 h1
      have e_ := HI.out.1
      have e0 := (blk_cell e_ 0).trans rfl
      have e1 := (blk_cell e_ 1).trans rfl
      have e2 := (blk_cell e_ 2).trans rfl
      have e3 := (blk_cell e_ 3).trans rfl
      have e4 := (blk_cell e_ 4).trans rfl
      have e5 := (blk_cell e_ 5).trans rfl
      have e6 := (blk_cell e_ 6).trans rfl
      have e7 := (blk_cell e_ 7).trans rfl
      have e8 := (blk_cell e_ 8).trans rfl
      have e9 := (blk_cell e_ 9).trans rfl
      have q0 := (blk_cell HI.out.2.1 0).trans rfl
      have q1 := (blk_cell HI.out.2.1 1).trans rfl
      have h0 := (blk_cell HI.out.2.2.1 0).trans rfl
      have h1 := (blk_cell HI.out.2.2.1 1).trans rfl
      clear e_
      go_wp2_with (fail)
      refine (awake_calls w3).mono ?_
      rintro e wz ⟨rfl, hb⟩
      have HZ := Aside0.mk (below_step HI.out.2.2.2 hb)
      clear hb
      go_wp2_with (fail)
      go_ret
      exact ⟨rfl, HZ.out⟩
    · have hfw : FewS s := hfi.mp rfl
      have hln := hli rfl
      obtain ⟨vi, hvi⟩ : ∃ z, z = validI s := ⟨_, rfl⟩
      have HVI := Aside0.mk hvi
      have HFW := Aside0.mk hfw
      have HLN := Aside0.mk hln
      clear hfw hfi hli hln
      by_cases hx0 : x.size ≤ 5000
      · have hxb : decide (5000 < x.size) = false := decide_eq_false (by omega)
        have hxc : decide ((5000 : Int) < (x.size : Int)) = false := decide_eq_false (by omega)
        have HXS := Aside0.mk (show x.size ≤ 1000000 from by omega)
        clear hx0
        by_cases hv0 : vi = 0
        · have hvb : (vi != 0) = false := bne_eq_false_iff_eq.mpr hv0
          have hgood : Good s := good_of s (hvi.symm.trans hv0)
          obtain ⟨X, hX⟩ : ∃ z, z = doS s a x := ⟨_, rfl⟩
          have hXg : Good X := by rw [hX]; exact do_good hgood _ _
          have HREF := Aside0.mk (hgood.ref HLN.out)
          have HREF2 := Aside0.mk ((move_good hgood a).ref (by rw [moveS_lines]; exact HLN.out))
          have HOK := Aside0.mk (hgood.ok HLN.out)
          have HXG := Aside0.mk hXg
          have HX_ := Aside0.mk hX
          clear hv0 hvi hgood hXg hX
          go_enter Try.func4, Try.ntmps4
          go_wp2_with (fail)
          rw [← HW1.out]
          refine (jobshelllaw46_few.calls 1000 s.text s.pos s.mark Ak ck s.kills Au cu s.undo Ar cr s.redo s.keys s.last s.line s.saved true w1 (Kd.C_below K1.out HI.out.2.2.2) h1c (Kd.C_below K2.out HI.out.2.2.2) h2c (Kd.C_below K3.out HI.out.2.2.2) h3c HF.out).mono ?_
          rintro e w2 ⟨rfl, hb⟩
          have HI' := Aside0.mk (show CBox w2 w.heap.size s (.slice Ak s.kills.length ck) (.slice Au s.undo.length cu) (.slice Ar s.redo.length cr) ∧ w2.heap[w.heap.size + 1]? = some (.cells #[.int .i64 a, .string x] 36 (0, 0)) ∧ w2.heap[w.heap.size + 1 + 1]? = some (.cells #[.int .i64 s.off, .slice Al s.lines.length cl] 38 (0, 0)) ∧ Below w.heap.size w w2 from ⟨blk_below HI.out.1 hb, blk_below HI.out.2.1 hb, blk_below HI.out.2.2.1 hb, below_step HI.out.2.2.2 hb⟩)
          clear HI
          have HI := HI'
          clear HI' hb
          have e_ := HI.out.1
          have e0 := (blk_cell e_ 0).trans rfl
          have e1 := (blk_cell e_ 1).trans rfl
          have e2 := (blk_cell e_ 2).trans rfl
          have e3 := (blk_cell e_ 3).trans rfl
          have e4 := (blk_cell e_ 4).trans rfl
          have e5 := (blk_cell e_ 5).trans rfl
          have e6 := (blk_cell e_ 6).trans rfl
          have e7 := (blk_cell e_ 7).trans rfl
          have e8 := (blk_cell e_ 8).trans rfl
          have e9 := (blk_cell e_ 9).trans rfl
          have q0 := (blk_cell HI.out.2.1 0).trans rfl
          have q1 := (blk_cell HI.out.2.1 1).trans rfl
          have h0 := (blk_cell HI.out.2.2.1 0).trans rfl
          have h1 := (blk_cell HI.out.2.2.1 1).trans rfl
          clear e_
          go_wp2_with (fail)
          refine (jobshelllaw46_lines.calls 1000 s.off Al cl s.lines true w2 (Kd.C_below K4.out HI.out.2.2.2) hlc HL.out).mono ?_
          rintro e w3 ⟨rfl, hb⟩
          have HI' := Aside0.mk (show CBox w3 w.heap.size s (.slice Ak s.kills.length ck) (.slice Au s.undo.length cu) (.slice Ar s.redo.length cr) ∧ w3.heap[w.heap.size + 1]? = some (.cells #[.int .i64 a, .string x] 36 (0, 0)) ∧ w3.heap[w.heap.size + 1 + 1]? = some (.cells #[.int .i64 s.off, .slice Al s.lines.length cl] 38 (0, 0)) ∧ Below w.heap.size w w3 from ⟨blk_below HI.out.1 hb, blk_below HI.out.2.1 hb, blk_below HI.out.2.2.1 hb, below_step HI.out.2.2.2 hb⟩)
          clear HI
          have HI := HI'
          clear HI' hb
          clear e0 e1 e2 e3 e4 e5 e6 e7 e8 e9 q0 q1 h0 h1
          have e_ := HI.out.1
          have e0 := (blk_cell e_ 0).trans rfl
          have e1 := (blk_cell e_ 1).trans rfl
          have e2 := (blk_cell e_ 2).trans rfl
          have e3 := (blk_cell e_ 3).trans rfl
          have e4 := (blk_cell e_ 4).trans rfl
          have e5 := (blk_cell e_ 5).trans rfl
          have e6 := (blk_cell e_ 6).trans rfl
          have e7 := (blk_cell e_ 7).trans rfl
          have e8 := (blk_cell e_ 8).trans rfl
          have e9 := (blk_cell e_ 9).trans rfl
          have q0 := (blk_cell HI.out.2.1 0).trans rfl
          have q1 := (blk_cell HI.out.2.1 1).trans rfl
          have h0 := (blk_cell HI.out.2.2.1 0).trans rfl
          have h1 := (blk_cell HI.out.2.2.1 1).trans rfl
          clear e_
          go_wp2_with (fail)
          refine (rval_calls w3 s Ak Au Ar ck cu cr (Kd.C_below K1.out HI.out.2.2.2) h1c (Kd.C_below K2.out HI.out.2.2.2) h2c (Kd.C_below K3.out HI.out.2.2.2) h3c (by have := HFW.out.kills; omega) (by have := HFW.out.undo; omega) (by have := HFW.out.redo; omega)).mono ?_
          rw [← HVI.out]
          rintro e w4 ⟨rfl, hb⟩
          have HI' := Aside0.mk (show CBox w4 w.heap.size s (.slice Ak s.kills.length ck) (.slice Au s.undo.length cu) (.slice Ar s.redo.length cr) ∧ w4.heap[w.heap.size + 1]? = some (.cells #[.int .i64 a, .string x] 36 (0, 0)) ∧ w4.heap[w.heap.size + 1 + 1]? = some (.cells #[.int .i64 s.off, .slice Al s.lines.length cl] 38 (0, 0)) ∧ Below w.heap.size w w4 from ⟨blk_below HI.out.1 hb, blk_below HI.out.2.1 hb, blk_below HI.out.2.2.1 hb, below_step HI.out.2.2.2 hb⟩)
          clear HI
          have HI := HI'
          clear HI' hb
          clear e0 e1 e2 e3 e4 e5 e6 e7 e8 e9 q0 q1 h0 h1
          have e_ := HI.out.1
          have e0 := (blk_cell e_ 0).trans rfl
          have e1 := (blk_cell e_ 1).trans rfl
          have e2 := (blk_cell e_ 2).trans rfl
          have e3 := (blk_cell e_ 3).trans rfl
          have e4 := (blk_cell e_ 4).trans rfl
          have e5 := (blk_cell e_ 5).trans rfl
          have e6 := (blk_cell e_ 6).trans rfl
          have e7 := (blk_cell e_ 7).trans rfl
          have e8 := (blk_cell e_ 8).trans rfl
          have e9 := (blk_cell e_ 9).trans rfl
          have q0 := (blk_cell HI.out.2.1 0).trans rfl
          have q1 := (blk_cell HI.out.2.1 1).trans rfl
          have h0 := (blk_cell HI.out.2.2.1 0).trans rfl
          have h1 := (blk_cell HI.out.2.2.1 1).trans rfl
          clear e_
          go_wp2_with (fail)
          have hed : EdK w4 s (.agg #[.string s.text, .int .i64 s.pos, .int .i64 s.mark, .slice Ak s.kills.length ck, .slice Au s.undo.length cu, .slice Ar s.redo.length cr, .string s.keys, .int .i64 s.last, .int .i64 s.line, .string s.saved]) := ⟨Ak, Au, Ar, ck, cu, cr, rfl, Kd.C_below K1.out HI.out.2.2.2, h1c, Kd.C_below K2.out HI.out.2.2.2, h2c, Kd.C_below K3.out HI.out.2.2.2, h3c⟩
          have HED := Aside0.mk hed
          clear hed
          refine (do_callsK w4 s a x _ _ HOK.out HXS.out HED.out ⟨Al, cl, rfl, hlc, Kd.C_below K4.out HI.out.2.2.2⟩).mono ?_
          rw [← HX_.out]
          rintro e w5 ⟨v4, rfl, hv4, hb4⟩
          obtain ⟨Akx, Aux, Arx, ckx, cux, crx, rfl, g1, g1c, g2, g2c, g3, g3c⟩ := hv4
          obtain ⟨w6, hW⟩ : ∃ z, z = w5.alloc (.cells #[.string X.text, .int .i64 X.pos, .int .i64 X.mark, .slice Akx X.kills.length ckx, .slice Aux X.undo.length cux, .slice Arx X.redo.length crx, .string X.keys, .int .i64 X.last, .int .i64 X.line, .string X.saved] 27) := ⟨_, rfl⟩
          obtain ⟨gx, hgx⟩ : ∃ z, z = w5.heap.size := ⟨_, rfl⟩
          have hba : Below w5.heap.size w5 w6 := by rw [hW]; exact below_alloc (Below.refl _ _) _
          have hb : Below w4.heap.size w4 w6 := by rw [hW]; exact below_alloc hb4 _
          have HXx := Aside0.mk (show w6.heap[gx]? = some (.cells #[.string X.text, .int .i64 X.pos, .int .i64 X.mark, .slice Akx X.kills.length ckx, .slice Aux X.undo.length cux, .slice Arx X.redo.length crx, .string X.keys, .int .i64 X.last, .int .i64 X.line, .string X.saved] 27 (0, 0)) from by rw [hW, hgx]; exact blk_new _ _)
          have G1 := Aside0.mk (Kd.C_below g1 hba)
          have G2 := Aside0.mk (Kd.C_below g2 hba)
          have G3 := Aside0.mk (Kd.C_below g3 hba)
          have HW := Aside0.mk hW
          clear g1 g2 g3 hW hba hb4
          have HI' := Aside0.mk (show CBox w6 w.heap.size s (.slice Ak s.kills.length ck) (.slice Au s.undo.length cu) (.slice Ar s.redo.length cr) ∧ w6.heap[w.heap.size + 1]? = some (.cells #[.int .i64 a, .string x] 36 (0, 0)) ∧ w6.heap[w.heap.size + 1 + 1]? = some (.cells #[.int .i64 s.off, .slice Al s.lines.length cl] 38 (0, 0)) ∧ Below w.heap.size w w6 from ⟨blk_below HI.out.1 hb, blk_below HI.out.2.1 hb, blk_below HI.out.2.2.1 hb, below_step HI.out.2.2.2 hb⟩)
          clear HI
          have HI := HI'
          clear HI' hb
          go_upto_region 4 with (fail)
          rw [← HW.out, ← hgx]
          clear HW hgx
          clear e0 e1 e2 e3 e4 e5 e6 e7 e8 e9 q0 q1 h0 h1
          have HEV := Aside0.mk (show EdV w6.drew (fun k => k < w6.drew.heap.size) s (.agg #[.string s.text, .int .i64 s.pos, .int .i64 s.mark, .slice Ak s.kills.length ck, .slice Au s.undo.length cu, .slice Ar s.redo.length cr, .string s.keys, .int .i64 s.last, .int .i64 s.line, .string s.saved]) from EdV_of (Kd.C_below (Kd.C_below K1.out HI.out.2.2.2) (below_drew (Below.refl _ _))) h1c (Kd.C_below (Kd.C_below K2.out HI.out.2.2.2) (below_drew (Below.refl _ _))) h2c (Kd.C_below (Kd.C_below K3.out HI.out.2.2.2) (below_drew (Below.refl _ _))) h3c)
          have HHI := Aside0.mk (show HiC w6.drew s.off s.lines (.agg #[.int .i64 s.off, .slice Al s.lines.length cl]) from ⟨Al, cl, rfl, hlc, Kd.C_below (Kd.C_below K4.out HI.out.2.2.2) (below_drew (Below.refl _ _))⟩)
          go_region_held3 (fun W => Aside0 (Below w6.heap.size w6 W) ∧ (W.cell? ⟨w.heap.size, 0, none⟩ = some (.string s.text) ∧ W.cell? ⟨w.heap.size, 1, none⟩ = some (.int .i64 s.pos) ∧ W.cell? ⟨w.heap.size, 2, none⟩ = some (.int .i64 s.mark) ∧ W.cell? ⟨w.heap.size, 3, none⟩ = some (.slice Ak s.kills.length ck) ∧ W.cell? ⟨w.heap.size, 4, none⟩ = some (.slice Au s.undo.length cu) ∧ W.cell? ⟨w.heap.size, 5, none⟩ = some (.slice Ar s.redo.length cr) ∧ W.cell? ⟨w.heap.size, 6, none⟩ = some (.string s.keys) ∧ W.cell? ⟨w.heap.size, 7, none⟩ = some (.int .i64 s.last) ∧ W.cell? ⟨w.heap.size, 8, none⟩ = some (.int .i64 s.line) ∧ W.cell? ⟨w.heap.size, 9, none⟩ = some (.string s.saved)) ∧ (W.cell? ⟨gx, 0, none⟩ = some (.string X.text) ∧ W.cell? ⟨gx, 1, none⟩ = some (.int .i64 X.pos) ∧ W.cell? ⟨gx, 2, none⟩ = some (.int .i64 X.mark) ∧ W.cell? ⟨gx, 3, none⟩ = some (.slice Akx X.kills.length ckx) ∧ W.cell? ⟨gx, 4, none⟩ = some (.slice Aux X.undo.length cux) ∧ W.cell? ⟨gx, 5, none⟩ = some (.slice Arx X.redo.length crx) ∧ W.cell? ⟨gx, 6, none⟩ = some (.string X.keys) ∧ W.cell? ⟨gx, 7, none⟩ = some (.int .i64 X.last) ∧ W.cell? ⟨gx, 8, none⟩ = some (.int .i64 X.line) ∧ W.cell? ⟨gx, 9, none⟩ = some (.string X.saved)) ∧ (W.cell? ⟨w.heap.size + 1, 0, none⟩ = some (.int .i64 a) ∧ W.cell? ⟨w.heap.size + 1, 1, none⟩ = some (.string x)) ∧ (W.cell? ⟨w.heap.size + 1 + 1, 0, none⟩ = some (.int .i64 s.off) ∧ W.cell? ⟨w.heap.size + 1 + 1, 1, none⟩ = some (.slice Al s.lines.length cl)))
            (first | exact dS HI.out.1 HXx.out HI.out.2.1 HI.out.2.2.1 HBd.out | exact dS HI.out.1 HXx.out HI.out.2.1 HI.out.2.2.1 HBc.out | exact dS HI.out.1 HXx.out HI.out.2.1 HI.out.2.2.1 HBb.out | exact dS HI.out.1 HXx.out HI.out.2.1 HI.out.2.2.1 HBa.out | exact dS HI.out.1 HXx.out HI.out.2.1 HI.out.2.2.1 (below_drew (Below.refl _ _)))
            (first | (go_at_call 17; refine (rdo_calls w6.drew (fun k => k < w6.drew.heap.size) s a x _ _ HEV.out HREF.out HREF2.out HXS.out HHI.out).mono ?_; rintro e w7 ⟨v7, rfl, hv7, hb7⟩; have HBa := Aside0.mk (below_step (below_drew (Below.refl _ _)) hb7); rw [← HX_.out] at hv7; obtain ⟨Ak7, Au7, Ar7, ck7, cu7, cr7, rfl, q1, q1c, q2, q2c, q3, q3c⟩ := hv7.edK; have Q1 := Aside0.mk q1; have Q2 := Aside0.mk q2; have Q3 := Aside0.mk q3; clear hv7 hb7 q1 q2 q3) | (go_at_call 13; refine (rsame_calls w7 X Akx Aux Arx Ak7 Au7 Ar7 ckx cux crx ck7 cu7 cr7 (Kd.C_below G1.out HBa.out) g1c (Kd.C_below G2.out HBa.out) g2c (Kd.C_below G3.out HBa.out) g3c Q1.out q1c Q2.out q2c Q3.out q3c (by have := HXG.out.kills; omega) (by have := HXG.out.undo; omega) (by have := HXG.out.redo; omega)).mono ?_; rintro e w8 ⟨rfl, hb8⟩; have HBb := Aside0.mk (below_step HBa.out hb8); clear hb8) | (go_at_call 11; refine (pval_good w8 X Akx Aux Arx ckx cux crx (Kd.C_below G1.out HBb.out) g1c (Kd.C_below G2.out HBb.out) g2c (Kd.C_below G3.out HBb.out) g3c HXG.out).mono ?_; rintro e w9 ⟨rfl, hb9⟩; have HBc := Aside0.mk (below_step HBb.out hb9); clear hb9) | (go_at_call 10; refine (awake_calls w9).mono ?_; rintro e wz ⟨rfl, hbz⟩; have HBd := Aside0.mk (below_step HBc.out hbz); clear hbz))
          all_goals
            go_wp2_with (fail)
            go_ret
            exact ⟨rfl, below_step HI.out.2.2.2 HBd.out⟩
        · have hvb : (vi != 0) = true := bne_iff_ne.mpr hv0
          clear hv0 hvi
          go_enter Try.func4, Try.ntmps4
          go_wp2_with (fail)
          rw [← HW1.out]
          refine (jobshelllaw46_few.calls 1000 s.text s.pos s.mark Ak ck s.kills Au cu s.undo Ar cr s.redo s.keys s.last s.line s.saved true w1 (Kd.C_below K1.out HI.out.2.2.2) h1c (Kd.C_below K2.out HI.out.2.2.2) h2c (Kd.C_below K3.out HI.out.2.2.2) h3c HF.out).mono ?_
          rintro e w2 ⟨rfl, hb⟩
          have HI' := Aside0.mk (show CBox w2 w.heap.size s (.slice Ak s.kills.length ck) (.slice Au s.undo.length cu) (.slice Ar s.redo.length cr) ∧ w2.heap[w.heap.size + 1]? = some (.cells #[.int .i64 a, .string x] 36 (0, 0)) ∧ w2.heap[w.heap.size + 1 + 1]? = some (.cells #[.int .i64 s.off, .slice Al s.lines.length cl] 38 (0, 0)) ∧ Below w.heap.size w w2 from ⟨blk_below HI.out.1 hb, blk_below HI.out.2.1 hb, blk_below HI.out.2.2.1 hb, below_step HI.out.2.2.2 hb⟩)
          clear HI
          have HI := HI'
          clear HI' hb
          have e_ := HI.out.1
          have e0 := (blk_cell e_ 0).trans rfl
          have e1 := (blk_cell e_ 1).trans rfl
          have e2 := (blk_cell e_ 2).trans rfl
          have e3 := (blk_cell e_ 3).trans rfl
          have e4 := (blk_cell e_ 4).trans rfl
          have e5 := (blk_cell e_ 5).trans rfl
          have e6 := (blk_cell e_ 6).trans rfl
          have e7 := (blk_cell e_ 7).trans rfl
          have e8 := (blk_cell e_ 8).trans rfl
          have e9 := (blk_cell e_ 9).trans rfl
          have q0 := (blk_cell HI.out.2.1 0).trans rfl
          have q1 := (blk_cell HI.out.2.1 1).trans rfl
          have h0 := (blk_cell HI.out.2.2.1 0).trans rfl
          have h1 := (blk_cell HI.out.2.2.1 1).trans rfl
          clear e_
          go_wp2_with (fail)
          refine (jobshelllaw46_lines.calls 1000 s.off Al cl s.lines true w2 (Kd.C_below K4.out HI.out.2.2.2) hlc HL.out).mono ?_
          rintro e w3 ⟨rfl, hb⟩
          have HI' := Aside0.mk (show CBox w3 w.heap.size s (.slice Ak s.kills.length ck) (.slice Au s.undo.length cu) (.slice Ar s.redo.length cr) ∧ w3.heap[w.heap.size + 1]? = some (.cells #[.int .i64 a, .string x] 36 (0, 0)) ∧ w3.heap[w.heap.size + 1 + 1]? = some (.cells #[.int .i64 s.off, .slice Al s.lines.length cl] 38 (0, 0)) ∧ Below w.heap.size w w3 from ⟨blk_below HI.out.1 hb, blk_below HI.out.2.1 hb, blk_below HI.out.2.2.1 hb, below_step HI.out.2.2.2 hb⟩)
          clear HI
          have HI := HI'
          clear HI' hb
          clear e0 e1 e2 e3 e4 e5 e6 e7 e8 e9 q0 q1 h0 h1
          have e_ := HI.out.1
          have e0 := (blk_cell e_ 0).trans rfl
          have e1 := (blk_cell e_ 1).trans rfl
          have e2 := (blk_cell e_ 2).trans rfl
          have e3 := (blk_cell e_ 3).trans rfl
          have e4 := (blk_cell e_ 4).trans rfl
          have e5 := (blk_cell e_ 5).trans rfl
          have e6 := (blk_cell e_ 6).trans rfl
          have e7 := (blk_cell e_ 7).trans rfl
          have e8 := (blk_cell e_ 8).trans rfl
          have e9 := (blk_cell e_ 9).trans rfl
          have q0 := (blk_cell HI.out.2.1 0).trans rfl
          have q1 := (blk_cell HI.out.2.1 1).trans rfl
          have h0 := (blk_cell HI.out.2.2.1 0).trans rfl
          have h1 := (blk_cell HI.out.2.2.1 1).trans rfl
          clear e_
          go_wp2_with (fail)
          refine (rval_calls w3 s Ak Au Ar ck cu cr (Kd.C_below K1.out HI.out.2.2.2) h1c (Kd.C_below K2.out HI.out.2.2.2) h2c (Kd.C_below K3.out HI.out.2.2.2) h3c (by have := HFW.out.kills; omega) (by have := HFW.out.undo; omega) (by have := HFW.out.redo; omega)).mono ?_
          rw [← HVI.out]
          rintro e w4 ⟨rfl, hb⟩
          have HI' := Aside0.mk (show CBox w4 w.heap.size s (.slice Ak s.kills.length ck) (.slice Au s.undo.length cu) (.slice Ar s.redo.length cr) ∧ w4.heap[w.heap.size + 1]? = some (.cells #[.int .i64 a, .string x] 36 (0, 0)) ∧ w4.heap[w.heap.size + 1 + 1]? = some (.cells #[.int .i64 s.off, .slice Al s.lines.length cl] 38 (0, 0)) ∧ Below w.heap.size w w4 from ⟨blk_below HI.out.1 hb, blk_below HI.out.2.1 hb, blk_below HI.out.2.2.1 hb, below_step HI.out.2.2.2 hb⟩)
          clear HI
          have HI := HI'
          clear HI' hb
          clear e0 e1 e2 e3 e4 e5 e6 e7 e8 e9 q0 q1 h0 h1
          have e_ := HI.out.1
          have e0 := (blk_cell e_ 0).trans rfl
          have e1 := (blk_cell e_ 1).trans rfl
          have e2 := (blk_cell e_ 2).trans rfl
          have e3 := (blk_cell e_ 3).trans rfl
          have e4 := (blk_cell e_ 4).trans rfl
          have e5 := (blk_cell e_ 5).trans rfl
          have e6 := (blk_cell e_ 6).trans rfl
          have e7 := (blk_cell e_ 7).trans rfl
          have e8 := (blk_cell e_ 8).trans rfl
          have e9 := (blk_cell e_ 9).trans rfl
          have q0 := (blk_cell HI.out.2.1 0).trans rfl
          have q1 := (blk_cell HI.out.2.1 1).trans rfl
          have h0 := (blk_cell HI.out.2.2.1 0).trans rfl
          have h1 := (blk_cell HI.out.2.2.1 1).trans rfl
          clear e_
          go_wp2_with (fail)
          refine (awake_calls w4).mono ?_
          rintro e wz ⟨rfl, hb⟩
          have HZ := Aside0.mk (below_step HI.out.2.2.2 hb)
          clear hb
          go_wp2_with (fail)
          go_ret
          exact ⟨rfl, HZ.out⟩
      · have hxb : decide (5000 < x.size) = true := decide_eq_true (by omega)
        have hxc : decide ((5000 : Int) < (x.size : Int)) = true := decide_eq_true (by omega)
        clear hx0
        go_enter Try.func4, Try.ntmps4
        go_wp2_with (fail)
        rw [← HW1.out]
        refine (jobshelllaw46_few.calls 1000 s.text s.pos s.mark Ak ck s.kills Au cu s.undo Ar cr s.redo s.keys s.last s.line s.saved true w1 (Kd.C_below K1.out HI.out.2.2.2) h1c (Kd.C_below K2.out HI.out.2.2.2) h2c (Kd.C_below K3.out HI.out.2.2.2) h3c HF.out).mono ?_
        rintro e w2 ⟨rfl, hb⟩
        have HI' := Aside0.mk (show CBox w2 w.heap.size s (.slice Ak s.kills.length ck) (.slice Au s.undo.length cu) (.slice Ar s.redo.length cr) ∧ w2.heap[w.heap.size + 1]? = some (.cells #[.int .i64 a, .string x] 36 (0, 0)) ∧ w2.heap[w.heap.size + 1 + 1]? = some (.cells #[.int .i64 s.off, .slice Al s.lines.length cl] 38 (0, 0)) ∧ Below w.heap.size w w2 from ⟨blk_below HI.out.1 hb, blk_below HI.out.2.1 hb, blk_below HI.out.2.2.1 hb, below_step HI.out.2.2.2 hb⟩)
        clear HI
        have HI := HI'
        clear HI' hb
        have e_ := HI.out.1
        have e0 := (blk_cell e_ 0).trans rfl
        have e1 := (blk_cell e_ 1).trans rfl
        have e2 := (blk_cell e_ 2).trans rfl
        have e3 := (blk_cell e_ 3).trans rfl
        have e4 := (blk_cell e_ 4).trans rfl
        have e5 := (blk_cell e_ 5).trans rfl
        have e6 := (blk_cell e_ 6).trans rfl
        have e7 := (blk_cell e_ 7).trans rfl
        have e8 := (blk_cell e_ 8).trans rfl
        have e9 := (blk_cell e_ 9).trans rfl
        have q0 := (blk_cell HI.out.2.1 0).trans rfl
        have q1 := (blk_cell HI.out.2.1 1).trans rfl
        have h0 := (blk_cell HI.out.2.2.1 0).trans rfl
        have h1 := (blk_cell HI.out.2.2.1 1).trans rfl
        clear e_
        go_wp2_with (fail)
        refine (jobshelllaw46_lines.calls 1000 s.off Al cl s.lines true w2 (Kd.C_below K4.out HI.out.2.2.2) hlc HL.out).mono ?_
        rintro e w3 ⟨rfl, hb⟩
        have HI' := Aside0.mk (show CBox w3 w.heap.size s (.slice Ak s.kills.length ck) (.slice Au s.undo.length cu) (.slice Ar s.redo.length cr) ∧ w3.heap[w.heap.size + 1]? = some (.cells #[.int .i64 a, .string x] 36 (0, 0)) ∧ w3.heap[w.heap.size + 1 + 1]? = some (.cells #[.int .i64 s.off, .slice Al s.lines.length cl] 38 (0, 0)) ∧ Below w.heap.size w w3 from ⟨blk_below HI.out.1 hb, blk_below HI.out.2.1 hb, blk_below HI.out.2.2.1 hb, below_step HI.out.2.2.2 hb⟩)
        clear HI
        have HI := HI'
        clear HI' hb
        clear e0 e1 e2 e3 e4 e5 e6 e7 e8 e9 q0 q1 h0 h1
        have e_ := HI.out.1
        have e0 := (blk_cell e_ 0).trans rfl
        have e1 := (blk_cell e_ 1).trans rfl
        have e2 := (blk_cell e_ 2).trans rfl
        have e3 := (blk_cell e_ 3).trans rfl
        have e4 := (blk_cell e_ 4).trans rfl
        have e5 := (blk_cell e_ 5).trans rfl
        have e6 := (blk_cell e_ 6).trans rfl
        have e7 := (blk_cell e_ 7).trans rfl
        have e8 := (blk_cell e_ 8).trans rfl
        have e9 := (blk_cell e_ 9).trans rfl
        have q0 := (blk_cell HI.out.2.1 0).trans rfl
        have q1 := (blk_cell HI.out.2.1 1).trans rfl
        have h0 := (blk_cell HI.out.2.2.1 0).trans rfl
        have h1 := (blk_cell HI.out.2.2.1 1).trans rfl
        clear e_
        go_wp2_with (fail)
        refine (awake_calls w3).mono ?_
        rintro e wz ⟨rfl, hb⟩
        have HZ := Aside0.mk (below_step HI.out.2.2.2 hb)
        clear hb
        go_wp2_with (fail)
        go_ret
        exact ⟨rfl, HZ.out⟩

open Classical in
/-- The law's answer at what a machine can hold. -/
noncomputable def jobshelllaw46_EditorDoes.f (k : Nat) (a0_0 : ByteArray) (a0_1 : Int) (a0_2 : Int) (l0_3 : List ByteArray) (l0_4 : List (S23)) (l0_5 : List (S23)) (a0_6 : ByteArray) (a0_7 : Int) (a0_8 : Int) (a0_9 : ByteArray) (a1_0 : Int) (a1_1 : ByteArray) (a2_0 : Int) (l2_1 : List ByteArray) : Option (Bool) := if Held ⟨a0_0, a0_1, a0_2, l0_3, l0_4, l0_5, a0_6, a0_7, a0_8, a0_9, a2_0, l2_1⟩ then some true else none
theorem jobshelllaw46_EditorDoes.calls (k : Nat) (a0_0 : ByteArray) (a0_1 : Int) (a0_2 : Int) (A0_3 : Option Addr) (c0_3 : Nat) (l0_3 : List ByteArray) (A0_4 : Option Addr) (c0_4 : Nat) (l0_4 : List (S23)) (A0_5 : Option Addr) (c0_5 : Nat) (l0_5 : List (S23)) (a0_6 : ByteArray) (a0_7 : Int) (a0_8 : Int) (a0_9 : ByteArray) (a1_0 : Int) (a1_1 : ByteArray) (a2_0 : Int) (A2_1 : Option Addr) (c2_1 : Nat) (l2_1 : List ByteArray) (r : Bool) (w : World) (hr0_3 : Kd.C Kd.string w A0_3 l0_3.length l0_3) (hc0_3 : l0_3.length ≤ c0_3) (hr0_4 : Kd.C k23 w A0_4 l0_4.length l0_4) (hc0_4 : l0_4.length ≤ c0_4) (hr0_5 : Kd.C k23 w A0_5 l0_5.length l0_5) (hc0_5 : l0_5.length ≤ c0_5) (hr2_1 : Kd.C Kd.string w A2_1 l2_1.length l2_1) (hc2_1 : l2_1.length ≤ c2_1) (h : jobshelllaw46_EditorDoes.f k a0_0 a0_1 a0_2 l0_3 l0_4 l0_5 a0_6 a0_7 a0_8 a0_9 a1_0 a1_1 a2_0 l2_1 = some r) :
    Calls Try.prog 4 #[.agg #[.string a0_0, .int .i64 a0_1, .int .i64 a0_2, .slice A0_3 l0_3.length c0_3, .slice A0_4 l0_4.length c0_4, .slice A0_5 l0_5.length c0_5, .string a0_6, .int .i64 a0_7, .int .i64 a0_8, .string a0_9], .agg #[.int .i64 a1_0, .string a1_1], .agg #[.int .i64 a2_0, .slice A2_1 l2_1.length c2_1]] w fun e w' => e = .returned (.bool r) ∧ Below w.heap.size w w' := by
  unfold jobshelllaw46_EditorDoes.f at h
  split at h
  · rename_i hs
    injection h with h
    subst h
    exact does_walk w ⟨a0_0, a0_1, a0_2, l0_3, l0_4, l0_5, a0_6, a0_7, a0_8, a0_9, a2_0, l2_1⟩ a1_0 a1_1 A0_3 A0_4 A0_5 A2_1 c0_3 c0_4 c0_5 c2_1 hs hr0_3 hc0_3 hr0_4 hc0_4 hr0_5 hc0_5 hr2_1 hc2_1
  · cases h
end Go.Proofs.Ytlbbjdggebgabaa.P
