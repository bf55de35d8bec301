/- The law EditorUndoes: its walk. -/
import Derived.Test.YtlbbjdggebgabaaRUM8
import Derived.Test.YtlbbjdggebgabaaRUM10
import Derived.Test.YtlbbjdggebgabaaRUM9
namespace Go.Proofs.Ytlbbjdggebgabaa.P
open Go.RowKit Go.Proofs.YtlbbjdggebgabaaW.PrintWords Go.Proofs.YtlbbjdggebgabaaW.PrintLast Go.Proofs.YtlbbjdggebgabaaW.PrintMore
set_option linter.unusedVariables false
set_option linter.unusedSimpArgs false

/-- A box that holds an editor as it came. -/
def CBox (W : World) (g : Nat) (s : St) (vk vu vr : Value) : Prop := W.heap[g]? = some (.cells #[.string s.text, .int .i64 s.pos, .int .i64 s.mark, vk, vu, vr, .string s.keys, .int .i64 s.last, .int .i64 s.line, .string s.saved] 27 (0, 0))
/-- A box that holds an editor, with its lists. -/
def XBox (W : World) (g : Nat) (s : St) : Prop := ∃ (Ak Au Ar : Option Addr) (ck cu cr : Nat), CBox W g s (.slice Ak s.kills.length ck) (.slice Au s.undo.length cu) (.slice Ar s.redo.length cr) ∧ Kd.C Kd.string W Ak s.kills.length s.kills ∧ Kd.C k23 W Au s.undo.length s.undo ∧ Kd.C k23 W Ar s.redo.length s.redo
theorem XBox.below {W W1 : World} {g : Nat} {s : St} (h : XBox W g s) (hb : Below W.heap.size W W1) : XBox W1 g s := by
  obtain ⟨Ak, Au, Ar, ck, cu, cr, h0, h1, h2, h3⟩ := h
  exact ⟨Ak, Au, Ar, ck, cu, cr, blk_below h0 hb, Kd.C_below h1 hb, Kd.C_below h2 hb, Kd.C_below h3 hb⟩
theorem EdC.opn {W : World} {s : St} {v : Value} (h : EdC W s v) : ∃ (Ak Au Ar : Option Addr) (ck cu cr : Nat), v = .agg #[.string s.text, .int .i64 s.pos, .int .i64 s.mark, .slice Ak s.kills.length ck, .slice Au s.undo.length cu, .slice Ar s.redo.length cr, .string s.keys, .int .i64 s.last, .int .i64 s.line, .string s.saved] ∧
    Kd.C Kd.string W Ak s.kills.length s.kills ∧ Kd.C k23 W Au s.undo.length s.undo ∧ Kd.C k23 W Ar s.redo.length s.redo := h
set_option maxHeartbeats 32000000 in
set_option maxRecDepth 100000 in
theorem undoes_walk (w : World) (s : St) (a : Int) (x : ByteArray) (Ak Au Ar Al : Option Addr) (ck cu cr cl : Nat) (hs : Held s) (h1 : Kd.C Kd.string w Ak s.kills.length s.kills) (h1c : s.kills.length ≤ ck) (h2 : Kd.C k23 w Au s.undo.length s.undo) (h2c : s.undo.length ≤ cu) (h3 : Kd.C k23 w Ar s.redo.length s.redo) (h3c : s.redo.length ≤ cr) (h5 : Kd.C Kd.string w Al s.lines.length s.lines) (hlc : s.lines.length ≤ cl) :
    Calls Try.prog 7 #[.agg #[.string s.text, .int .i64 s.pos, .int .i64 s.mark, .slice Ak s.kills.length ck, .slice Au s.undo.length cu, .slice Ar s.redo.length cr, .string s.keys, .int .i64 s.last, .int .i64 s.line, .string s.saved], .agg #[.int .i64 a, .string x], .agg #[.int .i64 s.off, .slice Al s.lines.length cl]] w fun e w' => e = .returned (.bool true) ∧ Below w.heap.size w w' := by
  have hu27 := Try.underlying27
  have hu38 := Try.underlying38
  have hu36 := Try.underlying36
  have hu23 := Try.underlying23
  obtain ⟨rf, hf, hfi⟩ := few_f s hs
  obtain ⟨rl, hl, hli⟩ := lines_f s.off s.lines
  obtain ⟨w1, hw1⟩ : ∃ z, z = ((w.alloc (.cells #[.string s.text, .int .i64 s.pos, .int .i64 s.mark, .slice Ak s.kills.length ck, .slice Au s.undo.length cu, .slice Ar s.redo.length cr, .string s.keys, .int .i64 s.last, .int .i64 s.line, .string s.saved] 27)).alloc (.cells #[.int .i64 a, .string x] 36)).alloc (.cells #[.int .i64 s.off, .slice Al s.lines.length cl] 38) := ⟨_, rfl⟩
  have HI := Aside0.mk (show CBox w1 w.heap.size s (.slice Ak s.kills.length ck) (.slice Au s.undo.length cu) (.slice Ar s.redo.length cr) ∧ w1.heap[w.heap.size + 1]? = some (.cells #[.int .i64 a, .string x] 36 (0, 0)) ∧ w1.heap[w.heap.size + 1 + 1]? = some (.cells #[.int .i64 s.off, .slice Al s.lines.length cl] 38 (0, 0)) ∧ Below w.heap.size w w1 from by rw [hw1]; exact ⟨blk_alloc (blk_alloc (blk_new w _) _) _, blk_alloc (blk_new2 w _ _ _) _, blk_new3 w _ _ _ _, below_alloc (below_alloc (below_alloc (Below.refl _ _) _) _) _⟩)
  have K1 := Aside0.mk h1
  have K2 := Aside0.mk h2
  have K3 := Aside0.mk h3
  have K4 := Aside0.mk h5
  have HW1 := Aside0.mk hw1
  have HF := Aside0.mk hf
  have HL := Aside0.mk hl
  clear hw1 h1 h2 h3 h5 hf hl hs
  cases rf
  · clear hfi hli
    go_enter Try.func7, Try.ntmps7
    go_wp2_with (fail)
    rw [← HW1.out]
    refine (jobshelllaw46_few.calls 1000 s.text s.pos s.mark Ak ck s.kills Au cu s.undo Ar cr s.redo s.keys s.last s.line s.saved false w1 (Kd.C_below K1.out HI.out.2.2.2) h1c (Kd.C_below K2.out HI.out.2.2.2) h2c (Kd.C_below K3.out HI.out.2.2.2) h3c HF.out).mono ?_
    rintro e w2 ⟨rfl, hb⟩
    have HI' := Aside0.mk (show CBox w2 w.heap.size s (.slice Ak s.kills.length ck) (.slice Au s.undo.length cu) (.slice Ar s.redo.length cr) ∧ w2.heap[w.heap.size + 1]? = some (.cells #[.int .i64 a, .string x] 36 (0, 0)) ∧ w2.heap[w.heap.size + 1 + 1]? = some (.cells #[.int .i64 s.off, .slice Al s.lines.length cl] 38 (0, 0)) ∧ Below w.heap.size w w2 from ⟨blk_below HI.out.1 hb, blk_below HI.out.2.1 hb, blk_below HI.out.2.2.1 hb, below_step HI.out.2.2.2 hb⟩)
    clear HI
    have HI := HI'
    clear HI' hb
    have e_ := HI.out.1
    have e0 := (blk_cell e_ 0).trans rfl
    have e1 := (blk_cell e_ 1).trans rfl
    have e2 := (blk_cell e_ 2).trans rfl
    have e3 := (blk_cell e_ 3).trans rfl
    have e4 := (blk_cell e_ 4).trans rfl
    have e5 := (blk_cell e_ 5).trans rfl
    have e6 := (blk_cell e_ 6).trans rfl
    have e7 := (blk_cell e_ 7).trans rfl
    have e8 := (blk_cell e_ 8).trans rfl
    have e9 := (blk_cell e_ 9).trans rfl
    have q0 := (blk_cell HI.out.2.1 0).trans rfl
    have q1 := (blk_cell HI.out.2.1 1).trans rfl
    have h0 := (blk_cell HI.out.2.2.1 0).trans rfl
    have h1 := (blk_cell HI.out.2.2.1 1).trans rfl
    clear e_
    go_wp2_with (fail)
    refine (awake_calls w2).mono ?_
    rintro e wz ⟨rfl, hb⟩
    have HZ := Aside0.mk (below_step HI.out.2.2.2 hb)
    clear hb
    go_wp2_with (fail)
    go_ret
    exact ⟨rfl, HZ.out⟩
  · cases rl
    · clear hfi hli
      go_enter Try.func7, Try.ntmps7
      go_wp2_with (fail)
      rw [← HW1.out]
      refine (jobshelllaw46_few.calls 1000 s.text s.pos s.mark Ak ck s.kills Au cu s.undo Ar cr s.redo s.keys s.last s.line s.saved true w1 (Kd.C_below K1.out HI.out.2.2.2) h1c (Kd.C_below K2.out HI.out.2.2.2) h2c (Kd.C_below K3.out HI.out.2.2.2) h3c HF.out).mono ?_
      rintro e w2 ⟨rfl, hb⟩
      have HI' := Aside0.mk (show CBox w2 w.heap.size s (.slice Ak s.kills.length ck) (.slice Au s.undo.length cu) (.slice Ar s.redo.length cr) ∧ w2.heap[w.heap.size + 1]? = some (.cells #[.int .i64 a, .string x] 36 (0, 0)) ∧ w2.heap[w.heap.size + 1 + 1]? = some (.cells #[.int .i64 s.off, .slice Al s.lines.length cl] 38 (0, 0)) ∧ Below w.heap.size w w2 from ⟨blk_below HI.out.1 hb, blk_below HI.out.2.1 hb, blk_below HI.out.2.2.1 hb, below_step HI.out.2.2.2 hb⟩)
      clear HI
      have HI := HI'
      clear HI' hb
      have e_ := HI.out.1
      have e0 := (blk_cell e_ 0).trans rfl
      have e1 := (blk_cell e_ 1).trans rfl
      have e2 := (blk_cell e_ 2).trans rfl
      have e3 := (blk_cell e_ 3).trans rfl
      have e4 := (blk_cell e_ 4).trans rfl
      have e5 := (blk_cell e_ 5).trans rfl
      have e6 := (blk_cell e_ 6).trans rfl
      have e7 := (blk_cell e_ 7).trans rfl
      have e8 := (blk_cell e_ 8).trans rfl
      have e9 := (blk_cell e_ 9).trans rfl
      have q0 := (blk_cell HI.out.2.1 0).trans rfl
      have q1 := (blk_cell HI.out.2.1 1).trans rfl
      have h0 := (blk_cell HI.out.2.2.1 0).trans rfl
      have h1 := (blk_cell HI.out.2.2.1 1).trans rfl
      clear e_
      go_wp2_with (fail)
      refine (jobshelllaw46_lines.calls 1000 s.off Al cl s.lines false w2 (Kd.C_below K4.out HI.out.2.2.2) hlc HL.out).mono ?_
      rintro e w3 ⟨rfl, hb⟩
      have HI' := Aside0.mk (show CBox w3 w.heap.size s (.slice Ak s.kills.length ck) (.slice Au s.undo.length cu) (.slice Ar s.redo.length cr) ∧ w3.heap[w.heap.size + 1]? = some (.cells #[.int .i64 a, .string x] 36 (0, 0)) ∧ w3.heap[w.heap.size + 1 + 1]? = some (.cells #[.int .i64 s.off, .slice Al s.lines.length cl] 38 (0, 0)) ∧ Below w.heap.size w w3 from ⟨blk_below HI.out.1 hb, blk_below HI.out.2.1 hb, blk_below HI.out.2.2.1 hb, below_step HI.out.2.2.2 hb⟩)
      clear HI
      have HI := HI'
      clear HI' hb
      clear e0 e1 e2 e3 e4 e5 e6 e7 e8 e9 q0 q1 h0 h1
      have e_ := HI.out.1
      have e0 := (blk_cell e_ 0).trans rfl
      have e1 := (blk_cell e_ 1).trans rfl
      have e2 := (blk_cell e_ 2).trans rfl
      have e3 := (blk_cell e_ 3).trans rfl
      have e4 := (blk_cell e_ 4).trans rfl
      have e5 := (blk_cell e_ 5).trans rfl
      have e6 := (blk_cell e_ 6).trans rfl
      have e7 := (blk_cell e_ 7).trans rfl
      have e8 := (blk_cell e_ 8).trans rfl
      have e9 := (blk_cell e_ 9).trans rfl
      have q0 := (blk_cell HI.out.2.1 0).trans rfl
      have q1 := (blk_cell HI.out.2.1 1).trans rfl
      have h0 := (blk_cell HI.out.2.2.1 0).trans rfl
      have h1 := (blk_cell HI.out.2.2.1 1).trans rfl
      clear e_
      go_wp2_with (fail)
      refine (awake_calls w3).mono ?_
      rintro e wz ⟨rfl, hb⟩
      have HZ := Aside0.mk (below_step HI.out.2.2.2 hb)
      clear hb
      go_wp2_with (fail)
      go_ret
      exact ⟨rfl, HZ.out⟩
    · have hfw : FewS s := hfi.mp rfl
      have hln := hli rfl
      have hv := rvalid_f s 1000 (by have := hfw.kills; omega) (by have := hfw.undo; omega) (by have := hfw.redo; omega) (by have h1 := hfw.kills; have h2 := hfw.undo; have h3 := hfw.redo; omega)
      obtain ⟨vi, hvi⟩ : ∃ z, z = validI s := ⟨_, rfl⟩
      rw [← hvi] at hv
      have HV := Aside0.mk hv
      have HFW := Aside0.mk hfw
      have HLN := Aside0.mk hln
      clear hv hfw hfi hli hln
      by_cases hx0 : x.size ≤ 5000
      · have hxb : decide (5000 < x.size) = false := decide_eq_false (by omega)
        have hxc : decide ((5000 : Int) < (x.size : Int)) = false := decide_eq_false (by omega)
        have HXS := Aside0.mk hx0
        clear hx0
        by_cases hv0 : vi = 0
        · have hvb : (vi != 0) = false := bne_eq_false_iff_eq.mpr hv0
          by_cases a17 : a = 17
          · have hb17 : (a == 17) = true := beq_iff_eq.mpr a17
            clear hvi a17
            go_enter Try.func7, Try.ntmps7
            go_wp2_with (fail)
            rw [← HW1.out]
            refine (jobshelllaw46_few.calls 1000 s.text s.pos s.mark Ak ck s.kills Au cu s.undo Ar cr s.redo s.keys s.last s.line s.saved true w1 (Kd.C_below K1.out HI.out.2.2.2) h1c (Kd.C_below K2.out HI.out.2.2.2) h2c (Kd.C_below K3.out HI.out.2.2.2) h3c HF.out).mono ?_
            rintro e w2 ⟨rfl, hb⟩
            have HI' := Aside0.mk (show CBox w2 w.heap.size s (.slice Ak s.kills.length ck) (.slice Au s.undo.length cu) (.slice Ar s.redo.length cr) ∧ w2.heap[w.heap.size + 1]? = some (.cells #[.int .i64 a, .string x] 36 (0, 0)) ∧ w2.heap[w.heap.size + 1 + 1]? = some (.cells #[.int .i64 s.off, .slice Al s.lines.length cl] 38 (0, 0)) ∧ Below w.heap.size w w2 from ⟨blk_below HI.out.1 hb, blk_below HI.out.2.1 hb, blk_below HI.out.2.2.1 hb, below_step HI.out.2.2.2 hb⟩)
            clear HI
            have HI := HI'
            clear HI' hb
            have e_ := HI.out.1
            have e0 := (blk_cell e_ 0).trans rfl
            have e1 := (blk_cell e_ 1).trans rfl
            have e2 := (blk_cell e_ 2).trans rfl
            have e3 := (blk_cell e_ 3).trans rfl
            have e4 := (blk_cell e_ 4).trans rfl
            have e5 := (blk_cell e_ 5).trans rfl
            have e6 := (blk_cell e_ 6).trans rfl
            have e7 := (blk_cell e_ 7).trans rfl
            have e8 := (blk_cell e_ 8).trans rfl
            have e9 := (blk_cell e_ 9).trans rfl
            have q0 := (blk_cell HI.out.2.1 0).trans rfl
            have q1 := (blk_cell HI.out.2.1 1).trans rfl
            have h0 := (blk_cell HI.out.2.2.1 0).trans rfl
            have h1 := (blk_cell HI.out.2.2.1 1).trans rfl
            clear e_
            go_wp2_with (fail)
            refine (jobshelllaw46_lines.calls 1000 s.off Al cl s.lines true w2 (Kd.C_below K4.out HI.out.2.2.2) hlc HL.out).mono ?_
            rintro e w3 ⟨rfl, hb⟩
            have HI' := Aside0.mk (show CBox w3 w.heap.size s (.slice Ak s.kills.length ck) (.slice Au s.undo.length cu) (.slice Ar s.redo.length cr) ∧ w3.heap[w.heap.size + 1]? = some (.cells #[.int .i64 a, .string x] 36 (0, 0)) ∧ w3.heap[w.heap.size + 1 + 1]? = some (.cells #[.int .i64 s.off, .slice Al s.lines.length cl] 38 (0, 0)) ∧ Below w.heap.size w w3 from ⟨blk_below HI.out.1 hb, blk_below HI.out.2.1 hb, blk_below HI.out.2.2.1 hb, below_step HI.out.2.2.2 hb⟩)
            clear HI
            have HI := HI'
            clear HI' hb
            clear e0 e1 e2 e3 e4 e5 e6 e7 e8 e9 q0 q1 h0 h1
            have e_ := HI.out.1
            have e0 := (blk_cell e_ 0).trans rfl
            have e1 := (blk_cell e_ 1).trans rfl
            have e2 := (blk_cell e_ 2).trans rfl
            have e3 := (blk_cell e_ 3).trans rfl
            have e4 := (blk_cell e_ 4).trans rfl
            have e5 := (blk_cell e_ 5).trans rfl
            have e6 := (blk_cell e_ 6).trans rfl
            have e7 := (blk_cell e_ 7).trans rfl
            have e8 := (blk_cell e_ 8).trans rfl
            have e9 := (blk_cell e_ 9).trans rfl
            have q0 := (blk_cell HI.out.2.1 0).trans rfl
            have q1 := (blk_cell HI.out.2.1 1).trans rfl
            have h0 := (blk_cell HI.out.2.2.1 0).trans rfl
            have h1 := (blk_cell HI.out.2.2.1 1).trans rfl
            clear e_
            go_wp2_with (fail)
            refine (jobshellref46_Valid.calls 1000 s.text s.pos s.mark Ak ck s.kills Au cu s.undo Ar cr s.redo s.keys s.last s.line s.saved vi w3 (Kd.C_below K1.out HI.out.2.2.2) h1c (Kd.C_below K2.out HI.out.2.2.2) h2c (Kd.C_below K3.out HI.out.2.2.2) h3c HV.out).mono ?_
            rintro e w4 ⟨rfl, hb⟩
            have HI' := Aside0.mk (show CBox w4 w.heap.size s (.slice Ak s.kills.length ck) (.slice Au s.undo.length cu) (.slice Ar s.redo.length cr) ∧ w4.heap[w.heap.size + 1]? = some (.cells #[.int .i64 a, .string x] 36 (0, 0)) ∧ w4.heap[w.heap.size + 1 + 1]? = some (.cells #[.int .i64 s.off, .slice Al s.lines.length cl] 38 (0, 0)) ∧ Below w.heap.size w w4 from ⟨blk_below HI.out.1 hb, blk_below HI.out.2.1 hb, blk_below HI.out.2.2.1 hb, below_step HI.out.2.2.2 hb⟩)
            clear HI
            have HI := HI'
            clear HI' hb
            clear e0 e1 e2 e3 e4 e5 e6 e7 e8 e9 q0 q1 h0 h1
            have e_ := HI.out.1
            have e0 := (blk_cell e_ 0).trans rfl
            have e1 := (blk_cell e_ 1).trans rfl
            have e2 := (blk_cell e_ 2).trans rfl
            have e3 := (blk_cell e_ 3).trans rfl
            have e4 := (blk_cell e_ 4).trans rfl
            have e5 := (blk_cell e_ 5).trans rfl
            have e6 := (blk_cell e_ 6).trans rfl
            have e7 := (blk_cell e_ 7).trans rfl
            have e8 := (blk_cell e_ 8).trans rfl
            have e9 := (blk_cell e_ 9).trans rfl
            have q0 := (blk_cell HI.out.2.1 0).trans rfl
            have q1 := (blk_cell HI.out.2.1 1).trans rfl
            have h0 := (blk_cell HI.out.2.2.1 0).trans rfl
            have h1 := (blk_cell HI.out.2.2.1 1).trans rfl
            clear e_
            go_wp2_with (fail)
            refine (awake_calls w4).mono ?_
            rintro e wz ⟨rfl, hb⟩
            have HZ := Aside0.mk (below_step HI.out.2.2.2 hb)
            clear hb
            go_wp2_with (fail)
            go_ret
            exact ⟨rfl, HZ.out⟩
          · by_cases a18 : a = 18
            · have hb17 : (a == 17) = false := beq_eq_false_iff_ne.mpr a17
              have hb18 : (a == 18) = true := beq_iff_eq.mpr a18
              clear hvi a17 a18
              go_enter Try.func7, Try.ntmps7
              go_wp2_with (fail)
              rw [← HW1.out]
              refine (jobshelllaw46_few.calls 1000 s.text s.pos s.mark Ak ck s.kills Au cu s.undo Ar cr s.redo s.keys s.last s.line s.saved true w1 (Kd.C_below K1.out HI.out.2.2.2) h1c (Kd.C_below K2.out HI.out.2.2.2) h2c (Kd.C_below K3.out HI.out.2.2.2) h3c HF.out).mono ?_
              rintro e w2 ⟨rfl, hb⟩
              have HI' := Aside0.mk (show CBox w2 w.heap.size s (.slice Ak s.kills.length ck) (.slice Au s.undo.length cu) (.slice Ar s.redo.length cr) ∧ w2.heap[w.heap.size + 1]? = some (.cells #[.int .i64 a, .string x] 36 (0, 0)) ∧ w2.heap[w.heap.size + 1 + 1]? = some (.cells #[.int .i64 s.off, .slice Al s.lines.length cl] 38 (0, 0)) ∧ Below w.heap.size w w2 from ⟨blk_below HI.out.1 hb, blk_below HI.out.2.1 hb, blk_below HI.out.2.2.1 hb, below_step HI.out.2.2.2 hb⟩)
              clear HI
              have HI := HI'
              clear HI' hb
              have e_ := HI.out.1
              have e0 := (blk_cell e_ 0).trans rfl
              have e1 := (blk_cell e_ 1).trans rfl
              have e2 := (blk_cell e_ 2).trans rfl
              have e3 := (blk_cell e_ 3).trans rfl
              have e4 := (blk_cell e_ 4).trans rfl
              have e5 := (blk_cell e_ 5).trans rfl
              have e6 := (blk_cell e_ 6).trans rfl
              have e7 := (blk_cell e_ 7).trans rfl
              have e8 := (blk_cell e_ 8).trans rfl
              have e9 := (blk_cell e_ 9).trans rfl
              have q0 := (blk_cell HI.out.2.1 0).trans rfl
              have q1 := (blk_cell HI.out.2.1 1).trans rfl
              have h0 := (blk_cell HI.out.2.2.1 0).trans rfl
              have h1 := (blk_cell HI.out.2.2.1 1).trans rfl
              clear e_
              go_wp2_with (fail)
              refine (jobshelllaw46_lines.calls 1000 s.off Al cl s.lines true w2 (Kd.C_below K4.out HI.out.2.2.2) hlc HL.out).mono ?_
              rintro e w3 ⟨rfl, hb⟩
              have HI' := Aside0.mk (show CBox w3 w.heap.size s (.slice Ak s.kills.length ck) (.slice Au s.undo.length cu) (.slice Ar s.redo.length cr) ∧ w3.heap[w.heap.size + 1]? = some (.cells #[.int .i64 a, .string x] 36 (0, 0)) ∧ w3.heap[w.heap.size + 1 + 1]? = some (.cells #[.int .i64 s.off, .slice Al s.lines.length cl] 38 (0, 0)) ∧ Below w.heap.size w w3 from ⟨blk_below HI.out.1 hb, blk_below HI.out.2.1 hb, blk_below HI.out.2.2.1 hb, below_step HI.out.2.2.2 hb⟩)
              clear HI
              have HI := HI'
              clear HI' hb
              clear e0 e1 e2 e3 e4 e5 e6 e7 e8 e9 q0 q1 h0 h1
              have e_ := HI.out.1
              have e0 := (blk_cell e_ 0).trans rfl
              have e1 := (blk_cell e_ 1).trans rfl
              have e2 := (blk_cell e_ 2).trans rfl
              have e3 := (blk_cell e_ 3).trans rfl
              have e4 := (blk_cell e_ 4).trans rfl
              have e5 := (blk_cell e_ 5).trans rfl
              have e6 := (blk_cell e_ 6).trans rfl
              have e7 := (blk_cell e_ 7).trans rfl
              have e8 := (blk_cell e_ 8).trans rfl
              have e9 := (blk_cell e_ 9).trans rfl
              have q0 := (blk_cell HI.out.2.1 0).trans rfl
              have q1 := (blk_cell HI.out.2.1 1).trans rfl
              have h0 := (blk_cell HI.out.2.2.1 0).trans rfl
              have h1 := (blk_cell HI.out.2.2.1 1).trans rfl
              clear e_
              go_wp2_with (fail)
              refine (jobshellref46_Valid.calls 1000 s.text s.pos s.mark Ak ck s.kills Au cu s.undo Ar cr s.redo s.keys s.last s.line s.saved vi w3 (Kd.C_below K1.out HI.out.2.2.2) h1c (Kd.C_below K2.out HI.out.2.2.2) h2c (Kd.C_below K3.out HI.out.2.2.2) h3c HV.out).mono ?_
              rintro e w4 ⟨rfl, hb⟩
              have HI' := Aside0.mk (show CBox w4 w.heap.size s (.slice Ak s.kills.length ck) (.slice Au s.undo.length cu) (.slice Ar s.redo.length cr) ∧ w4.heap[w.heap.size + 1]? = some (.cells #[.int .i64 a, .string x] 36 (0, 0)) ∧ w4.heap[w.heap.size + 1 + 1]? = some (.cells #[.int .i64 s.off, .slice Al s.lines.length cl] 38 (0, 0)) ∧ Below w.heap.size w w4 from ⟨blk_below HI.out.1 hb, blk_below HI.out.2.1 hb, blk_below HI.out.2.2.1 hb, below_step HI.out.2.2.2 hb⟩)
              clear HI
              have HI := HI'
              clear HI' hb
              clear e0 e1 e2 e3 e4 e5 e6 e7 e8 e9 q0 q1 h0 h1
              have e_ := HI.out.1
              have e0 := (blk_cell e_ 0).trans rfl
              have e1 := (blk_cell e_ 1).trans rfl
              have e2 := (blk_cell e_ 2).trans rfl
              have e3 := (blk_cell e_ 3).trans rfl
              have e4 := (blk_cell e_ 4).trans rfl
              have e5 := (blk_cell e_ 5).trans rfl
              have e6 := (blk_cell e_ 6).trans rfl
              have e7 := (blk_cell e_ 7).trans rfl
              have e8 := (blk_cell e_ 8).trans rfl
              have e9 := (blk_cell e_ 9).trans rfl
              have q0 := (blk_cell HI.out.2.1 0).trans rfl
              have q1 := (blk_cell HI.out.2.1 1).trans rfl
              have h0 := (blk_cell HI.out.2.2.1 0).trans rfl
              have h1 := (blk_cell HI.out.2.2.1 1).trans rfl
              clear e_
              go_wp2_with (fail)
              refine (awake_calls w4).mono ?_
              rintro e wz ⟨rfl, hb⟩
              have HZ := Aside0.mk (below_step HI.out.2.2.2 hb)
              clear hb
              go_wp2_with (fail)
              go_ret
              exact ⟨rfl, HZ.out⟩
            · by_cases a20 : a = 20
              · have hb17 : (a == 17) = false := beq_eq_false_iff_ne.mpr a17
                have hb18 : (a == 18) = false := beq_eq_false_iff_ne.mpr a18
                have hb20 : (a == 20) = true := beq_iff_eq.mpr a20
                clear hvi a17 a18 a20
                go_enter Try.func7, Try.ntmps7
                go_wp2_with (fail)
                rw [← HW1.out]
                refine (jobshelllaw46_few.calls 1000 s.text s.pos s.mark Ak ck s.kills Au cu s.undo Ar cr s.redo s.keys s.last s.line s.saved true w1 (Kd.C_below K1.out HI.out.2.2.2) h1c (Kd.C_below K2.out HI.out.2.2.2) h2c (Kd.C_below K3.out HI.out.2.2.2) h3c HF.out).mono ?_
                rintro e w2 ⟨rfl, hb⟩
                have HI' := Aside0.mk (show CBox w2 w.heap.size s (.slice Ak s.kills.length ck) (.slice Au s.undo.length cu) (.slice Ar s.redo.length cr) ∧ w2.heap[w.heap.size + 1]? = some (.cells #[.int .i64 a, .string x] 36 (0, 0)) ∧ w2.heap[w.heap.size + 1 + 1]? = some (.cells #[.int .i64 s.off, .slice Al s.lines.length cl] 38 (0, 0)) ∧ Below w.heap.size w w2 from ⟨blk_below HI.out.1 hb, blk_below HI.out.2.1 hb, blk_below HI.out.2.2.1 hb, below_step HI.out.2.2.2 hb⟩)
                clear HI
                have HI := HI'
                clear HI' hb
                have e_ := HI.out.1
                have e0 := (blk_cell e_ 0).trans rfl
                have e1 := (blk_cell e_ 1).trans rfl
                have e2 := (blk_cell e_ 2).trans rfl
                have e3 := (blk_cell e_ 3).trans rfl
                have e4 := (blk_cell e_ 4).trans rfl
                have e5 := (blk_cell e_ 5).trans rfl
                have e6 := (blk_cell e_ 6).trans rfl
                have e7 := (blk_cell e_ 7).trans rfl
                have e8 := (blk_cell e_ 8).trans rfl
                have e9 := (blk_cell e_ 9).trans rfl
                have q0 := (blk_cell HI.out.2.1 0).trans rfl
                have q1 := (blk_cell HI.out.2.1 1).trans rfl
                have h0 := (blk_cell HI.out.2.2.1 0).trans rfl
                have h1 := (blk_cell HI.out.2.2.1 1).trans rfl
                clear e_
                go_wp2_with (fail)
                refine (jobshelllaw46_lines.calls 1000 s.off Al cl s.lines true w2 (Kd.C_below K4.out HI.out.2.2.2) hlc HL.out).mono ?_
                rintro e w3 ⟨rfl, hb⟩
                have HI' := Aside0.mk (show CBox w3 w.heap.size s (.slice Ak s.kills.length ck) (.slice Au s.undo.length cu) (.slice Ar s.redo.length cr) ∧ w3.heap[w.heap.size + 1]? = some (.cells #[.int .i64 a, .string x] 36 (0, 0)) ∧ w3.heap[w.heap.size + 1 + 1]? = some (.cells #[.int .i64 s.off, .slice Al s.lines.length cl] 38 (0, 0)) ∧ Below w.heap.size w w3 from ⟨blk_below HI.out.1 hb, blk_below HI.out.2.1 hb, blk_below HI.out.2.2.1 hb, below_step HI.out.2.2.2 hb⟩)
                clear HI
                have HI := HI'
                clear HI' hb
                clear e0 e1 e2 e3 e4 e5 e6 e7 e8 e9 q0 q1 h0 h1
                have e_ := HI.out.1
                have e0 := (blk_cell e_ 0).trans rfl
                have e1 := (blk_cell e_ 1).trans rfl
                have e2 := (blk_cell e_ 2).trans rfl
                have e3 := (blk_cell e_ 3).trans rfl
                have e4 := (blk_cell e_ 4).trans rfl
                have e5 := (blk_cell e_ 5).trans rfl
                have e6 := (blk_cell e_ 6).trans rfl
                have e7 := (blk_cell e_ 7).trans rfl
                have e8 := (blk_cell e_ 8).trans rfl
                have e9 := (blk_cell e_ 9).trans rfl
                have q0 := (blk_cell HI.out.2.1 0).trans rfl
                have q1 := (blk_cell HI.out.2.1 1).trans rfl
                have h0 := (blk_cell HI.out.2.2.1 0).trans rfl
                have h1 := (blk_cell HI.out.2.2.1 1).trans rfl
                clear e_
                go_wp2_with (fail)
                refine (jobshellref46_Valid.calls 1000 s.text s.pos s.mark Ak ck s.kills Au cu s.undo Ar cr s.redo s.keys s.last s.line s.saved vi w3 (Kd.C_below K1.out HI.out.2.2.2) h1c (Kd.C_below K2.out HI.out.2.2.2) h2c (Kd.C_below K3.out HI.out.2.2.2) h3c HV.out).mono ?_
                rintro e w4 ⟨rfl, hb⟩
                have HI' := Aside0.mk (show CBox w4 w.heap.size s (.slice Ak s.kills.length ck) (.slice Au s.undo.length cu) (.slice Ar s.redo.length cr) ∧ w4.heap[w.heap.size + 1]? = some (.cells #[.int .i64 a, .string x] 36 (0, 0)) ∧ w4.heap[w.heap.size + 1 + 1]? = some (.cells #[.int .i64 s.off, .slice Al s.lines.length cl] 38 (0, 0)) ∧ Below w.heap.size w w4 from ⟨blk_below HI.out.1 hb, blk_below HI.out.2.1 hb, blk_below HI.out.2.2.1 hb, below_step HI.out.2.2.2 hb⟩)
                clear HI
                have HI := HI'
                clear HI' hb
                clear e0 e1 e2 e3 e4 e5 e6 e7 e8 e9 q0 q1 h0 h1
                have e_ := HI.out.1
                have e0 := (blk_cell e_ 0).trans rfl
                have e1 := (blk_cell e_ 1).trans rfl
                have e2 := (blk_cell e_ 2).trans rfl
                have e3 := (blk_cell e_ 3).trans rfl
                have e4 := (blk_cell e_ 4).trans rfl
                have e5 := (blk_cell e_ 5).trans rfl
                have e6 := (blk_cell e_ 6).trans rfl
                have e7 := (blk_cell e_ 7).trans rfl
                have e8 := (blk_cell e_ 8).trans rfl
                have e9 := (blk_cell e_ 9).trans rfl
                have q0 := (blk_cell HI.out.2.1 0).trans rfl
                have q1 := (blk_cell HI.out.2.1 1).trans rfl
                have h0 := (blk_cell HI.out.2.2.1 0).trans rfl
                have h1 := (blk_cell HI.out.2.2.1 1).trans rfl
                clear e_
                go_wp2_with (fail)
                refine (awake_calls w4).mono ?_
                rintro e wz ⟨rfl, hb⟩
                have HZ := Aside0.mk (below_step HI.out.2.2.2 hb)
                clear hb
                go_wp2_with (fail)
                go_ret
                exact ⟨rfl, HZ.out⟩
              · by_cases a21 : a = 21
                · have hb17 : (a == 17) = false := beq_eq_false_iff_ne.mpr a17
                  have hb18 : (a == 18) = false := beq_eq_false_iff_ne.mpr a18
                  have hb20 : (a == 20) = false := beq_eq_false_iff_ne.mpr a20
                  have hb21 : (a == 21) = true := beq_iff_eq.mpr a21
                  clear hvi a17 a18 a20 a21
                  go_enter Try.func7, Try.ntmps7
                  go_wp2_with (fail)
                  rw [← HW1.out]
                  refine (jobshelllaw46_few.calls 1000 s.text s.pos s.mark Ak ck s.kills Au cu s.undo Ar cr s.redo s.keys s.last s.line s.saved true w1 (Kd.C_below K1.out HI.out.2.2.2) h1c (Kd.C_below K2.out HI.out.2.2.2) h2c (Kd.C_below K3.out HI.out.2.2.2) h3c HF.out).mono ?_
                  rintro e w2 ⟨rfl, hb⟩
                  have HI' := Aside0.mk (show CBox w2 w.heap.size s (.slice Ak s.kills.length ck) (.slice Au s.undo.length cu) (.slice Ar s.redo.length cr) ∧ w2.heap[w.heap.size + 1]? = some (.cells #[.int .i64 a, .string x] 36 (0, 0)) ∧ w2.heap[w.heap.size + 1 + 1]? = some (.cells #[.int .i64 s.off, .slice Al s.lines.length cl] 38 (0, 0)) ∧ Below w.heap.size w w2 from ⟨blk_below HI.out.1 hb, blk_below HI.out.2.1 hb, blk_below HI.out.2.2.1 hb, below_step HI.out.2.2.2 hb⟩)
                  clear HI
                  have HI := HI'
                  clear HI' hb
                  have e_ := HI.out.1
                  have e0 := (blk_cell e_ 0).trans rfl
                  have e1 := (blk_cell e_ 1).trans rfl
                  have e2 := (blk_cell e_ 2).trans rfl
                  have e3 := (blk_cell e_ 3).trans rfl
                  have e4 := (blk_cell e_ 4).trans rfl
                  have e5 := (blk_cell e_ 5).trans rfl
                  have e6 := (blk_cell e_ 6).trans rfl
                  have e7 := (blk_cell e_ 7).trans rfl
                  have e8 := (blk_cell e_ 8).trans rfl
                  have e9 := (blk_cell e_ 9).trans rfl
                  have q0 := (blk_cell HI.out.2.1 0).trans rfl
                  have q1 := (blk_cell HI.out.2.1 1).trans rfl
                  have h0 := (blk_cell HI.out.2.2.1 0).trans rfl
                  have h1 := (blk_cell HI.out.2.2.1 1).trans rfl
                  clear e_
                  go_wp2_with (fail)
                  refine (jobshelllaw46_lines.calls 1000 s.off Al cl s.lines true w2 (Kd.C_below K4.out HI.out.2.2.2) hlc HL.out).mono ?_
                  rintro e w3 ⟨rfl, hb⟩
                  have HI' := Aside0.mk (show CBox w3 w.heap.size s (.slice Ak s.kills.length ck) (.slice Au s.undo.length cu) (.slice Ar s.redo.length cr) ∧ w3.heap[w.heap.size + 1]? = some (.cells #[.int .i64 a, .string x] 36 (0, 0)) ∧ w3.heap[w.heap.size + 1 + 1]? = some (.cells #[.int .i64 s.off, .slice Al s.lines.length cl] 38 (0, 0)) ∧ Below w.heap.size w w3 from ⟨blk_below HI.out.1 hb, blk_below HI.out.2.1 hb, blk_below HI.out.2.2.1 hb, below_step HI.out.2.2.2 hb⟩)
                  clear HI
                  have HI := HI'
                  clear HI' hb
                  clear e0 e1 e2 e3 e4 e5 e6 e7 e8 e9 q0 q1 h0 h1
                  have e_ := HI.out.1
                  have e0 := (blk_cell e_ 0).trans rfl
                  have e1 := (blk_cell e_ 1).trans rfl
                  have e2 := (blk_cell e_ 2).trans rfl
                  have e3 := (blk_cell e_ 3).trans rfl
                  have e4 := (blk_cell e_ 4).trans rfl
                  have e5 := (blk_cell e_ 5).trans rfl
                  have e6 := (blk_cell e_ 6).trans rfl
                  have e7 := (blk_cell e_ 7).trans rfl
                  have e8 := (blk_cell e_ 8).trans rfl
                  have e9 := (blk_cell e_ 9).trans rfl
                  have q0 := (blk_cell HI.out.2.1 0).trans rfl
                  have q1 := (blk_cell HI.out.2.1 1).trans rfl
                  have h0 := (blk_cell HI.out.2.2.1 0).trans rfl
                  have h1 := (blk_cell HI.out.2.2.1 1).trans rfl
                  clear e_
                  go_wp2_with (fail)
                  refine (jobshellref46_Valid.calls 1000 s.text s.pos s.mark Ak ck s.kills Au cu s.undo Ar cr s.redo s.keys s.last s.line s.saved vi w3 (Kd.C_below K1.out HI.out.2.2.2) h1c (Kd.C_below K2.out HI.out.2.2.2) h2c (Kd.C_below K3.out HI.out.2.2.2) h3c HV.out).mono ?_
                  rintro e w4 ⟨rfl, hb⟩
                  have HI' := Aside0.mk (show CBox w4 w.heap.size s (.slice Ak s.kills.length ck) (.slice Au s.undo.length cu) (.slice Ar s.redo.length cr) ∧ w4.heap[w.heap.size + 1]? = some (.cells #[.int .i64 a, .string x] 36 (0, 0)) ∧ w4.heap[w.heap.size + 1 + 1]? = some (.cells #[.int .i64 s.off, .slice Al s.lines.length cl] 38 (0, 0)) ∧ Below w.heap.size w w4 from ⟨blk_below HI.out.1 hb, blk_below HI.out.2.1 hb, blk_below HI.out.2.2.1 hb, below_step HI.out.2.2.2 hb⟩)
                  clear HI
                  have HI := HI'
                  clear HI' hb
                  clear e0 e1 e2 e3 e4 e5 e6 e7 e8 e9 q0 q1 h0 h1
                  have e_ := HI.out.1
                  have e0 := (blk_cell e_ 0).trans rfl
                  have e1 := (blk_cell e_ 1).trans rfl
                  have e2 := (blk_cell e_ 2).trans rfl
                  have e3 := (blk_cell e_ 3).trans rfl
                  have e4 := (blk_cell e_ 4).trans rfl
                  have e5 := (blk_cell e_ 5).trans rfl
                  have e6 := (blk_cell e_ 6).trans rfl
                  have e7 := (blk_cell e_ 7).trans rfl
                  have e8 := (blk_cell e_ 8).trans rfl
                  have e9 := (blk_cell e_ 9).trans rfl
                  have q0 := (blk_cell HI.out.2.1 0).trans rfl
                  have q1 := (blk_cell HI.out.2.1 1).trans rfl
                  have h0 := (blk_cell HI.out.2.2.1 0).trans rfl
                  have h1 := (blk_cell HI.out.2.2.1 1).trans rfl
                  clear e_
                  go_wp2_with (fail)
                  refine (awake_calls w4).mono ?_
                  rintro e wz ⟨rfl, hb⟩
                  have HZ := Aside0.mk (below_step HI.out.2.2.2 hb)
                  clear hb
                  go_wp2_with (fail)
                  go_ret
                  exact ⟨rfl, HZ.out⟩
                · have hgood : Good s := good_of s (hvi.symm.trans hv0)
                  have hok := hgood.ok HLN.out
                  obtain ⟨X, hX⟩ : ∃ z, z = doS s a x := ⟨_, rfl⟩
                  have hXg : Good X := by rw [hX]; exact do_good hgood _ _
                  have hXl : X.lines = s.lines ∧ X.off = s.off := by rw [hX]; exact do_keep s a _
                  have hokX : OkS X := hXg.ok (by rw [hXl.1]; exact HLN.out)
                  obtain ⟨Y, hY⟩ : ∃ z, z = doS X 17 (⟨#[]⟩ : ByteArray) := ⟨_, rfl⟩
                  have hYg : Good Y := by rw [hY]; exact do_good hXg _ _
                  have hYl : Y.lines = s.lines ∧ Y.off = s.off := by rw [hY]; have h1 := do_keep X 17 (⟨#[]⟩ : ByteArray); exact ⟨h1.1.trans hXl.1, h1.2.trans hXl.2⟩
                  have hokY : OkS Y := hYg.ok (by rw [hYl.1]; exact HLN.out)
                  obtain ⟨Z, hZ⟩ : ∃ z, z = doS Y 18 (⟨#[]⟩ : ByteArray) := ⟨_, rfl⟩
                  have hur := undo_redo s a x (⟨#[]⟩ : ByteArray) a17 a18 a20 a21
                  rw [← hX, ← hY, ← hZ] at hur
                  have HUR := Aside0.mk hur
                  have HX_ := Aside0.mk hX
                  have HY_ := Aside0.mk hY
                  have HZ_ := Aside0.mk hZ
                  have HOK := Aside0.mk hok
                  have HOKX := Aside0.mk hokX
                  have HOKY := Aside0.mk hokY
                  have HHi : ∀ W, Kd.C Kd.string W Al s.lines.length s.lines → HiC W X.off X.lines (.agg #[.int .i64 s.off, .slice Al s.lines.length cl]) ∧ HiC W Y.off Y.lines (.agg #[.int .i64 s.off, .slice Al s.lines.length cl]) := by
                    intro W hC
                    rw [hXl.1, hXl.2, hYl.1, hYl.2]
                    exact ⟨⟨Al, cl, rfl, hlc, hC⟩, ⟨Al, cl, rfl, hlc, hC⟩⟩
                  have HHI := Aside0.mk HHi
                  have hb17 : (a == 17) = false := beq_eq_false_iff_ne.mpr a17
                  have hb18 : (a == 18) = false := beq_eq_false_iff_ne.mpr a18
                  have hb20 : (a == 20) = false := beq_eq_false_iff_ne.mpr a20
                  have hb21 : (a == 21) = false := beq_eq_false_iff_ne.mpr a21
                  clear hv0 hvi hgood hok hXg hXl hokX hYg hYl hokY hX hY hZ hur HHi a17 a18 a20 a21
                  by_cases ht0 : X.text = s.text
                  · have hte : (X.text.toList == s.text.toList) = true := beq_iff_eq.mpr (by rw [ht0])
                    clear ht0
                    go_enter Try.func7, Try.ntmps7
                    go_wp2_with (fail)
                    rw [← HW1.out]
                    refine (jobshelllaw46_few.calls 1000 s.text s.pos s.mark Ak ck s.kills Au cu s.undo Ar cr s.redo s.keys s.last s.line s.saved true w1 (Kd.C_below K1.out HI.out.2.2.2) h1c (Kd.C_below K2.out HI.out.2.2.2) h2c (Kd.C_below K3.out HI.out.2.2.2) h3c HF.out).mono ?_
                    rintro e w2 ⟨rfl, hb⟩
                    have HI' := Aside0.mk (show CBox w2 w.heap.size s (.slice Ak s.kills.length ck) (.slice Au s.undo.length cu) (.slice Ar s.redo.length cr) ∧ w2.heap[w.heap.size + 1]? = some (.cells #[.int .i64 a, .string x] 36 (0, 0)) ∧ w2.heap[w.heap.size + 1 + 1]? = some (.cells #[.int .i64 s.off, .slice Al s.lines.length cl] 38 (0, 0)) ∧ Below w.heap.size w w2 from ⟨blk_below HI.out.1 hb, blk_below HI.out.2.1 hb, blk_below HI.out.2.2.1 hb, below_step HI.out.2.2.2 hb⟩)
                    clear HI
                    have HI := HI'
                    clear HI' hb
                    have e_ := HI.out.1
                    have e0 := (blk_cell e_ 0).trans rfl
                    have e1 := (blk_cell e_ 1).trans rfl
                    have e2 := (blk_cell e_ 2).trans rfl
                    have e3 := (blk_cell e_ 3).trans rfl
                    have e4 := (blk_cell e_ 4).trans rfl
                    have e5 := (blk_cell e_ 5).trans rfl
                    have e6 := (blk_cell e_ 6).trans rfl
                    have e7 := (blk_cell e_ 7).trans rfl
                    have e8 := (blk_cell e_ 8).trans rfl
                    have e9 := (blk_cell e_ 9).trans rfl
                    have q0 := (blk_cell HI.out.2.1 0).trans rfl
                    have q1 := (blk_cell HI.out.2.1 1).trans rfl
                    have h0 := (blk_cell HI.out.2.2.1 0).trans rfl
                    have h1 := (blk_cell HI.out.2.2.1 1).trans rfl
                    clear e_
                    go_wp2_with (fail)
                    refine (jobshelllaw46_lines.calls 1000 s.off Al cl s.lines true w2 (Kd.C_below K4.out HI.out.2.2.2) hlc HL.out).mono ?_
                    rintro e w3 ⟨rfl, hb⟩
                    have HI' := Aside0.mk (show CBox w3 w.heap.size s (.slice Ak s.kills.length ck) (.slice Au s.undo.length cu) (.slice Ar s.redo.length cr) ∧ w3.heap[w.heap.size + 1]? = some (.cells #[.int .i64 a, .string x] 36 (0, 0)) ∧ w3.heap[w.heap.size + 1 + 1]? = some (.cells #[.int .i64 s.off, .slice Al s.lines.length cl] 38 (0, 0)) ∧ Below w.heap.size w w3 from ⟨blk_below HI.out.1 hb, blk_below HI.out.2.1 hb, blk_below HI.out.2.2.1 hb, below_step HI.out.2.2.2 hb⟩)
                    clear HI
                    have HI := HI'
                    clear HI' hb
                    clear e0 e1 e2 e3 e4 e5 e6 e7 e8 e9 q0 q1 h0 h1
                    have e_ := HI.out.1
                    have e0 := (blk_cell e_ 0).trans rfl
                    have e1 := (blk_cell e_ 1).trans rfl
                    have e2 := (blk_cell e_ 2).trans rfl
                    have e3 := (blk_cell e_ 3).trans rfl
                    have e4 := (blk_cell e_ 4).trans rfl
                    have e5 := (blk_cell e_ 5).trans rfl
                    have e6 := (blk_cell e_ 6).trans rfl
                    have e7 := (blk_cell e_ 7).trans rfl
                    have e8 := (blk_cell e_ 8).trans rfl
                    have e9 := (blk_cell e_ 9).trans rfl
                    have q0 := (blk_cell HI.out.2.1 0).trans rfl
                    have q1 := (blk_cell HI.out.2.1 1).trans rfl
                    have h0 := (blk_cell HI.out.2.2.1 0).trans rfl
                    have h1 := (blk_cell HI.out.2.2.1 1).trans rfl
                    clear e_
                    go_wp2_with (fail)
                    refine (jobshellref46_Valid.calls 1000 s.text s.pos s.mark Ak ck s.kills Au cu s.undo Ar cr s.redo s.keys s.last s.line s.saved vi w3 (Kd.C_below K1.out HI.out.2.2.2) h1c (Kd.C_below K2.out HI.out.2.2.2) h2c (Kd.C_below K3.out HI.out.2.2.2) h3c HV.out).mono ?_
                    rintro e w4 ⟨rfl, hb⟩
                    have HI' := Aside0.mk (show CBox w4 w.heap.size s (.slice Ak s.kills.length ck) (.slice Au s.undo.length cu) (.slice Ar s.redo.length cr) ∧ w4.heap[w.heap.size + 1]? = some (.cells #[.int .i64 a, .string x] 36 (0, 0)) ∧ w4.heap[w.heap.size + 1 + 1]? = some (.cells #[.int .i64 s.off, .slice Al s.lines.length cl] 38 (0, 0)) ∧ Below w.heap.size w w4 from ⟨blk_below HI.out.1 hb, blk_below HI.out.2.1 hb, blk_below HI.out.2.2.1 hb, below_step HI.out.2.2.2 hb⟩)
                    clear HI
                    have HI := HI'
                    clear HI' hb
                    clear e0 e1 e2 e3 e4 e5 e6 e7 e8 e9 q0 q1 h0 h1
                    have e_ := HI.out.1
                    have e0 := (blk_cell e_ 0).trans rfl
                    have e1 := (blk_cell e_ 1).trans rfl
                    have e2 := (blk_cell e_ 2).trans rfl
                    have e3 := (blk_cell e_ 3).trans rfl
                    have e4 := (blk_cell e_ 4).trans rfl
                    have e5 := (blk_cell e_ 5).trans rfl
                    have e6 := (blk_cell e_ 6).trans rfl
                    have e7 := (blk_cell e_ 7).trans rfl
                    have e8 := (blk_cell e_ 8).trans rfl
                    have e9 := (blk_cell e_ 9).trans rfl
                    have q0 := (blk_cell HI.out.2.1 0).trans rfl
                    have q1 := (blk_cell HI.out.2.1 1).trans rfl
                    have h0 := (blk_cell HI.out.2.2.1 0).trans rfl
                    have h1 := (blk_cell HI.out.2.2.1 1).trans rfl
                    clear e_
                    go_wp2_with (fail)
                    have hed : EdC w4 s (.agg #[.string s.text, .int .i64 s.pos, .int .i64 s.mark, .slice Ak s.kills.length ck, .slice Au s.undo.length cu, .slice Ar s.redo.length cr, .string s.keys, .int .i64 s.last, .int .i64 s.line, .string s.saved]) := ⟨Ak, Au, Ar, ck, cu, cr, rfl, Kd.C_below K1.out HI.out.2.2.2, Kd.C_below K2.out HI.out.2.2.2, Kd.C_below K3.out HI.out.2.2.2⟩
                    have HED := Aside0.mk hed
                    clear hed
                    refine (do_calls w4 s a x _ _ HOK.out (by have := HXS.out; omega) HED.out ⟨Al, cl, rfl, hlc, Kd.C_below K4.out HI.out.2.2.2⟩).mono ?_
                    rw [← HX_.out]
                    rintro e w5 ⟨v4, rfl, hv4, hb4⟩
                    obtain ⟨Akx, Aux, Arx, ckx, cux, crx, rfl, g2, g3, g4⟩ := hv4.opn
                    obtain ⟨w6, hW⟩ : ∃ z, z = w5.alloc (.cells #[.string X.text, .int .i64 X.pos, .int .i64 X.mark, .slice Akx X.kills.length ckx, .slice Aux X.undo.length cux, .slice Arx X.redo.length crx, .string X.keys, .int .i64 X.last, .int .i64 X.line, .string X.saved] 27) := ⟨_, rfl⟩
                    have hba : Below w5.heap.size w5 w6 := by rw [hW]; exact below_alloc (Below.refl _ _) _
                    have hb : Below w4.heap.size w4 w6 := by rw [hW]; exact below_alloc hb4 _
                    have HXx := Aside0.mk (show XBox w6 w5.heap.size X from ⟨Akx, Aux, Arx, ckx, cux, crx, by rw [hW]; exact blk_new _ _, Kd.C_below g2 hba, Kd.C_below g3 hba, Kd.C_below g4 hba⟩)
                    have HW := Aside0.mk hW
                    clear hv4 g2 g3 g4 hW hba hb4
                    have HI' := Aside0.mk (show CBox w6 w.heap.size s (.slice Ak s.kills.length ck) (.slice Au s.undo.length cu) (.slice Ar s.redo.length cr) ∧ w6.heap[w.heap.size + 1]? = some (.cells #[.int .i64 a, .string x] 36 (0, 0)) ∧ w6.heap[w.heap.size + 1 + 1]? = some (.cells #[.int .i64 s.off, .slice Al s.lines.length cl] 38 (0, 0)) ∧ Below w.heap.size w w6 from ⟨blk_below HI.out.1 hb, blk_below HI.out.2.1 hb, blk_below HI.out.2.2.1 hb, below_step HI.out.2.2.2 hb⟩)
                    clear HI
                    have HI := HI'
                    clear HI' hb
                    go_upto_region 4 with (fail)
                    rw [← HW.out]
                    clear HW
                    obtain ⟨gx, hgx⟩ : ∃ z, z = w5.heap.size := ⟨_, rfl⟩
                    rw [← hgx] at HXx ⊢
                    clear hgx
                    clear e0 e1 e2 e3 e4 e5 e6 e7 e8 e9 q0 q1 h0 h1
                    have e_ := HI.out.1
                    have e0 := (blk_cell e_ 0).trans rfl
                    have e1 := (blk_cell e_ 1).trans rfl
                    have e2 := (blk_cell e_ 2).trans rfl
                    have e3 := (blk_cell e_ 3).trans rfl
                    have e4 := (blk_cell e_ 4).trans rfl
                    have e5 := (blk_cell e_ 5).trans rfl
                    have e6 := (blk_cell e_ 6).trans rfl
                    have e7 := (blk_cell e_ 7).trans rfl
                    have e8 := (blk_cell e_ 8).trans rfl
                    have e9 := (blk_cell e_ 9).trans rfl
                    have q0 := (blk_cell HI.out.2.1 0).trans rfl
                    have q1 := (blk_cell HI.out.2.1 1).trans rfl
                    have h0 := (blk_cell HI.out.2.2.1 0).trans rfl
                    have h1 := (blk_cell HI.out.2.2.1 1).trans rfl
                    clear e_
                    obtain ⟨Akx, Aux, Arx, ckx, cux, crx, hbx, hkx, hux, hrx⟩ := HXx.out
                    have x0 := (blk_cell hbx 0).trans rfl
                    have x1 := (blk_cell hbx 1).trans rfl
                    have x2 := (blk_cell hbx 2).trans rfl
                    have x3 := (blk_cell hbx 3).trans rfl
                    have x4 := (blk_cell hbx 4).trans rfl
                    have x5 := (blk_cell hbx 5).trans rfl
                    have x6 := (blk_cell hbx 6).trans rfl
                    have x7 := (blk_cell hbx 7).trans rfl
                    have x8 := (blk_cell hbx 8).trans rfl
                    have x9 := (blk_cell hbx 9).trans rfl
                    have hedx : EdC w6 X (.agg #[.string X.text, .int .i64 X.pos, .int .i64 X.mark, .slice Akx X.kills.length ckx, .slice Aux X.undo.length cux, .slice Arx X.redo.length crx, .string X.keys, .int .i64 X.last, .int .i64 X.line, .string X.saved]) := ⟨Akx, Aux, Arx, ckx, cux, crx, rfl, hkx, hux, hrx⟩
                    have HEDX := Aside0.mk hedx
                    clear hedx hkx hux hrx hbx
                    go_wp2_with (fail)
                    refine (awake_calls w6).mono ?_
                    rintro e wz ⟨rfl, hb⟩
                    have HZ := Aside0.mk (below_step HI.out.2.2.2 hb)
                    clear hb
                    go_wp2_with (fail)
                    go_ret
                    exact ⟨rfl, HZ.out⟩
                  · by_cases hi : a = 1 ∧ s.last = 1
                    · have hne : ¬ X.text.toList = s.text.toList := fun h => ht0 (by rw [ByteArray.toList_eq, ByteArray.toList_eq] at h; exact ByteArray.ext (Array.ext' h))
                      have hte : (X.text.toList == s.text.toList) = false := beq_eq_false_iff_ne.mpr hne
                      have hb1 : (a == 1) = true := beq_iff_eq.mpr hi.1
                      have hbl : (s.last == 1) = true := beq_iff_eq.mpr hi.2
                      clear ht0 hne hi
                      go_enter Try.func7, Try.ntmps7
                      go_wp2_with (fail)
                      rw [← HW1.out]
                      refine (jobshelllaw46_few.calls 1000 s.text s.pos s.mark Ak ck s.kills Au cu s.undo Ar cr s.redo s.keys s.last s.line s.saved true w1 (Kd.C_below K1.out HI.out.2.2.2) h1c (Kd.C_below K2.out HI.out.2.2.2) h2c (Kd.C_below K3.out HI.out.2.2.2) h3c HF.out).mono ?_
                      rintro e w2 ⟨rfl, hb⟩
                      have HI' := Aside0.mk (show CBox w2 w.heap.size s (.slice Ak s.kills.length ck) (.slice Au s.undo.length cu) (.slice Ar s.redo.length cr) ∧ w2.heap[w.heap.size + 1]? = some (.cells #[.int .i64 a, .string x] 36 (0, 0)) ∧ w2.heap[w.heap.size + 1 + 1]? = some (.cells #[.int .i64 s.off, .slice Al s.lines.length cl] 38 (0, 0)) ∧ Below w.heap.size w w2 from ⟨blk_below HI.out.1 hb, blk_below HI.out.2.1 hb, blk_below HI.out.2.2.1 hb, below_step HI.out.2.2.2 hb⟩)
                      clear HI
                      have HI := HI'
                      clear HI' hb
                      have e_ := HI.out.1
                      have e0 := (blk_cell e_ 0).trans rfl
                      have e1 := (blk_cell e_ 1).trans rfl
                      have e2 := (blk_cell e_ 2).trans rfl
                      have e3 := (blk_cell e_ 3).trans rfl
                      have e4 := (blk_cell e_ 4).trans rfl
                      have e5 := (blk_cell e_ 5).trans rfl
                      have e6 := (blk_cell e_ 6).trans rfl
                      have e7 := (blk_cell e_ 7).trans rfl
                      have e8 := (blk_cell e_ 8).trans rfl
                      have e9 := (blk_cell e_ 9).trans rfl
                      have q0 := (blk_cell HI.out.2.1 0).trans rfl
                      have q1 := (blk_cell HI.out.2.1 1).trans rfl
                      have h0 := (blk_cell HI.out.2.2.1 0).trans rfl
                      have h1 := (blk_cell HI.out.2.2.1 1).trans rfl
                      clear e_
                      go_wp2_with (fail)
                      refine (jobshelllaw46_lines.calls 1000 s.off Al cl s.lines true w2 (Kd.C_below K4.out HI.out.2.2.2) hlc HL.out).mono ?_
                      rintro e w3 ⟨rfl, hb⟩
                      have HI' := Aside0.mk (show CBox w3 w.heap.size s (.slice Ak s.kills.length ck) (.slice Au s.undo.length cu) (.slice Ar s.redo.length cr) ∧ w3.heap[w.heap.size + 1]? = some (.cells #[.int .i64 a, .string x] 36 (0, 0)) ∧ w3.heap[w.heap.size + 1 + 1]? = some (.cells #[.int .i64 s.off, .slice Al s.lines.length cl] 38 (0, 0)) ∧ Below w.heap.size w w3 from ⟨blk_below HI.out.1 hb, blk_below HI.out.2.1 hb, blk_below HI.out.2.2.1 hb, below_step HI.out.2.2.2 hb⟩)
                      clear HI
                      have HI := HI'
                      clear HI' hb
                      clear e0 e1 e2 e3 e4 e5 e6 e7 e8 e9 q0 q1 h0 h1
                      have e_ := HI.out.1
                      have e0 := (blk_cell e_ 0).trans rfl
                      have e1 := (blk_cell e_ 1).trans rfl
                      have e2 := (blk_cell e_ 2).trans rfl
                      have e3 := (blk_cell e_ 3).trans rfl
                      have e4 := (blk_cell e_ 4).trans rfl
                      have e5 := (blk_cell e_ 5).trans rfl
                      have e6 := (blk_cell e_ 6).trans rfl
                      have e7 := (blk_cell e_ 7).trans rfl
                      have e8 := (blk_cell e_ 8).trans rfl
                      have e9 := (blk_cell e_ 9).trans rfl
                      have q0 := (blk_cell HI.out.2.1 0).trans rfl
                      have q1 := (blk_cell HI.out.2.1 1).trans rfl
                      have h0 := (blk_cell HI.out.2.2.1 0).trans rfl
                      have h1 := (blk_cell HI.out.2.2.1 1).trans rfl
                      clear e_
                      go_wp2_with (fail)
                      refine (jobshellref46_Valid.calls 1000 s.text s.pos s.mark Ak ck s.kills Au cu s.undo Ar cr s.redo s.keys s.last s.line s.saved vi w3 (Kd.C_below K1.out HI.out.2.2.2) h1c (Kd.C_below K2.out HI.out.2.2.2) h2c (Kd.C_below K3.out HI.out.2.2.2) h3c HV.out).mono ?_
                      rintro e w4 ⟨rfl, hb⟩
                      have HI' := Aside0.mk (show CBox w4 w.heap.size s (.slice Ak s.kills.length ck) (.slice Au s.undo.length cu) (.slice Ar s.redo.length cr) ∧ w4.heap[w.heap.size + 1]? = some (.cells #[.int .i64 a, .string x] 36 (0, 0)) ∧ w4.heap[w.heap.size + 1 + 1]? = some (.cells #[.int .i64 s.off, .slice Al s.lines.length cl] 38 (0, 0)) ∧ Below w.heap.size w w4 from ⟨blk_below HI.out.1 hb, blk_below HI.out.2.1 hb, blk_below HI.out.2.2.1 hb, below_step HI.out.2.2.2 hb⟩)
                      clear HI
                      have HI := HI'
                      clear HI' hb
                      clear e0 e1 e2 e3 e4 e5 e6 e7 e8 e9 q0 q1 h0 h1
                      have e_ := HI.out.1
                      have e0 := (blk_cell e_ 0).trans rfl
                      have e1 := (blk_cell e_ 1).trans rfl
                      have e2 := (blk_cell e_ 2).trans rfl
                      have e3 := (blk_cell e_ 3).trans rfl
                      have e4 := (blk_cell e_ 4).trans rfl
                      have e5 := (blk_cell e_ 5).trans rfl
                      have e6 := (blk_cell e_ 6).trans rfl
                      have e7 := (blk_cell e_ 7).trans rfl
                      have e8 := (blk_cell e_ 8).trans rfl
                      have e9 := (blk_cell e_ 9).trans rfl
                      have q0 := (blk_cell HI.out.2.1 0).trans rfl
                      have q1 := (blk_cell HI.out.2.1 1).trans rfl
                      have h0 := (blk_cell HI.out.2.2.1 0).trans rfl
                      have h1 := (blk_cell HI.out.2.2.1 1).trans rfl
                      clear e_
                      go_wp2_with (fail)
                      have hed : EdC w4 s (.agg #[.string s.text, .int .i64 s.pos, .int .i64 s.mark, .slice Ak s.kills.length ck, .slice Au s.undo.length cu, .slice Ar s.redo.length cr, .string s.keys, .int .i64 s.last, .int .i64 s.line, .string s.saved]) := ⟨Ak, Au, Ar, ck, cu, cr, rfl, Kd.C_below K1.out HI.out.2.2.2, Kd.C_below K2.out HI.out.2.2.2, Kd.C_below K3.out HI.out.2.2.2⟩
                      have HED := Aside0.mk hed
                      clear hed
                      refine (do_calls w4 s a x _ _ HOK.out (by have := HXS.out; omega) HED.out ⟨Al, cl, rfl, hlc, Kd.C_below K4.out HI.out.2.2.2⟩).mono ?_
                      rw [← HX_.out]
                      rintro e w5 ⟨v4, rfl, hv4, hb4⟩
                      obtain ⟨Akx, Aux, Arx, ckx, cux, crx, rfl, g2, g3, g4⟩ := hv4.opn
                      obtain ⟨w6, hW⟩ : ∃ z, z = w5.alloc (.cells #[.string X.text, .int .i64 X.pos, .int .i64 X.mark, .slice Akx X.kills.length ckx, .slice Aux X.undo.length cux, .slice Arx X.redo.length crx, .string X.keys, .int .i64 X.last, .int .i64 X.line, .string X.saved] 27) := ⟨_, rfl⟩
                      have hba : Below w5.heap.size w5 w6 := by rw [hW]; exact below_alloc (Below.refl _ _) _
                      have hb : Below w4.heap.size w4 w6 := by rw [hW]; exact below_alloc hb4 _
                      have HXx := Aside0.mk (show XBox w6 w5.heap.size X from ⟨Akx, Aux, Arx, ckx, cux, crx, by rw [hW]; exact blk_new _ _, Kd.C_below g2 hba, Kd.C_below g3 hba, Kd.C_below g4 hba⟩)
                      have HW := Aside0.mk hW
                      clear hv4 g2 g3 g4 hW hba hb4
                      have HI' := Aside0.mk (show CBox w6 w.heap.size s (.slice Ak s.kills.length ck) (.slice Au s.undo.length cu) (.slice Ar s.redo.length cr) ∧ w6.heap[w.heap.size + 1]? = some (.cells #[.int .i64 a, .string x] 36 (0, 0)) ∧ w6.heap[w.heap.size + 1 + 1]? = some (.cells #[.int .i64 s.off, .slice Al s.lines.length cl] 38 (0, 0)) ∧ Below w.heap.size w w6 from ⟨blk_below HI.out.1 hb, blk_below HI.out.2.1 hb, blk_below HI.out.2.2.1 hb, below_step HI.out.2.2.2 hb⟩)
                      clear HI
                      have HI := HI'
                      clear HI' hb
                      go_upto_region 4 with (fail)
                      rw [← HW.out]
                      clear HW
                      obtain ⟨gx, hgx⟩ : ∃ z, z = w5.heap.size := ⟨_, rfl⟩
                      rw [← hgx] at HXx ⊢
                      clear hgx
                      clear e0 e1 e2 e3 e4 e5 e6 e7 e8 e9 q0 q1 h0 h1
                      have e_ := HI.out.1
                      have e0 := (blk_cell e_ 0).trans rfl
                      have e1 := (blk_cell e_ 1).trans rfl
                      have e2 := (blk_cell e_ 2).trans rfl
                      have e3 := (blk_cell e_ 3).trans rfl
                      have e4 := (blk_cell e_ 4).trans rfl
                      have e5 := (blk_cell e_ 5).trans rfl
                      have e6 := (blk_cell e_ 6).trans rfl
                      have e7 := (blk_cell e_ 7).trans rfl
                      have e8 := (blk_cell e_ 8).trans rfl
                      have e9 := (blk_cell e_ 9).trans rfl
                      have q0 := (blk_cell HI.out.2.1 0).trans rfl
                      have q1 := (blk_cell HI.out.2.1 1).trans rfl
                      have h0 := (blk_cell HI.out.2.2.1 0).trans rfl
                      have h1 := (blk_cell HI.out.2.2.1 1).trans rfl
                      clear e_
                      obtain ⟨Akx, Aux, Arx, ckx, cux, crx, hbx, hkx, hux, hrx⟩ := HXx.out
                      have x0 := (blk_cell hbx 0).trans rfl
                      have x1 := (blk_cell hbx 1).trans rfl
                      have x2 := (blk_cell hbx 2).trans rfl
                      have x3 := (blk_cell hbx 3).trans rfl
                      have x4 := (blk_cell hbx 4).trans rfl
                      have x5 := (blk_cell hbx 5).trans rfl
                      have x6 := (blk_cell hbx 6).trans rfl
                      have x7 := (blk_cell hbx 7).trans rfl
                      have x8 := (blk_cell hbx 8).trans rfl
                      have x9 := (blk_cell hbx 9).trans rfl
                      have hedx : EdC w6 X (.agg #[.string X.text, .int .i64 X.pos, .int .i64 X.mark, .slice Akx X.kills.length ckx, .slice Aux X.undo.length cux, .slice Arx X.redo.length crx, .string X.keys, .int .i64 X.last, .int .i64 X.line, .string X.saved]) := ⟨Akx, Aux, Arx, ckx, cux, crx, rfl, hkx, hux, hrx⟩
                      have HEDX := Aside0.mk hedx
                      clear hedx hkx hux hrx hbx
                      go_wp2_with (fail)
                      refine (awake_calls w6).mono ?_
                      rintro e wz ⟨rfl, hb⟩
                      have HZ := Aside0.mk (below_step HI.out.2.2.2 hb)
                      clear hb
                      go_wp2_with (fail)
                      go_ret
                      exact ⟨rfl, HZ.out⟩
                    · have hne : ¬ X.text.toList = s.text.toList := fun h => ht0 (by rw [ByteArray.toList_eq, ByteArray.toList_eq] at h; exact ByteArray.ext (Array.ext' h))
                      have hte : (X.text.toList == s.text.toList) = false := beq_eq_false_iff_ne.mpr hne
                      have HUE := Aside0.mk (HUR.out ht0 hi)
                      have hi2 : (a == 1) = false ∨ ((a == 1) = true ∧ (s.last == 1) = false) := by
                        by_cases a1 : a = 1
                        · exact .inr ⟨beq_iff_eq.mpr a1, beq_eq_false_iff_ne.mpr (fun h => hi ⟨a1, h⟩)⟩
                        · exact .inl (beq_eq_false_iff_ne.mpr a1)
                      clear ht0 hne hi
                      rcases hi2 with hb1 | ⟨hb1, hbl⟩
                      all_goals
                        go_enter Try.func7, Try.ntmps7
                        go_wp2_with (fail)
                        rw [← HW1.out]
                        refine (jobshelllaw46_few.calls 1000 s.text s.pos s.mark Ak ck s.kills Au cu s.undo Ar cr s.redo s.keys s.last s.line s.saved true w1 (Kd.C_below K1.out HI.out.2.2.2) h1c (Kd.C_below K2.out HI.out.2.2.2) h2c (Kd.C_below K3.out HI.out.2.2.2) h3c HF.out).mono ?_
                        rintro e w2 ⟨rfl, hb⟩
                        have HI' := Aside0.mk (show CBox w2 w.heap.size s (.slice Ak s.kills.length ck) (.slice Au s.undo.length cu) (.slice Ar s.redo.length cr) ∧ w2.heap[w.heap.size + 1]? = some (.cells #[.int .i64 a, .string x] 36 (0, 0)) ∧ w2.heap[w.heap.size + 1 + 1]? = some (.cells #[.int .i64 s.off, .slice Al s.lines.length cl] 38 (0, 0)) ∧ Below w.heap.size w w2 from ⟨blk_below HI.out.1 hb, blk_below HI.out.2.1 hb, blk_below HI.out.2.2.1 hb, below_step HI.out.2.2.2 hb⟩)
                        clear HI
                        have HI := HI'
                        clear HI' hb
                        have e_ := HI.out.1
                        have e0 := (blk_cell e_ 0).trans rfl
                        have e1 := (blk_cell e_ 1).trans rfl
                        have e2 := (blk_cell e_ 2).trans rfl
                        have e3 := (blk_cell e_ 3).trans rfl
                        have e4 := (blk_cell e_ 4).trans rfl
                        have e5 := (blk_cell e_ 5).trans rfl
                        have e6 := (blk_cell e_ 6).trans rfl
                        have e7 := (blk_cell e_ 7).trans rfl
                        have e8 := (blk_cell e_ 8).trans rfl
                        have e9 := (blk_cell e_ 9).trans rfl
                        have q0 := (blk_cell HI.out.2.1 0).trans rfl
                        have q1 := (blk_cell HI.out.2.1 1).trans rfl
                        have h0 := (blk_cell HI.out.2.2.1 0).trans rfl
                        have h1 := (blk_cell HI.out.2.2.1 1).trans rfl
                        clear e_
                        go_wp2_with (fail)
                        refine (jobshelllaw46_lines.calls 1000 s.off Al cl s.lines true w2 (Kd.C_below K4.out HI.out.2.2.2) hlc HL.out).mono ?_
                        rintro e w3 ⟨rfl, hb⟩
                        have HI' := Aside0.mk (show CBox w3 w.heap.size s (.slice Ak s.kills.length ck) (.slice Au s.undo.length cu) (.slice Ar s.redo.length cr) ∧ w3.heap[w.heap.size + 1]? = some (.cells #[.int .i64 a, .string x] 36 (0, 0)) ∧ w3.heap[w.heap.size + 1 + 1]? = some (.cells #[.int .i64 s.off, .slice Al s.lines.length cl] 38 (0, 0)) ∧ Below w.heap.size w w3 from ⟨blk_below HI.out.1 hb, blk_below HI.out.2.1 hb, blk_below HI.out.2.2.1 hb, below_step HI.out.2.2.2 hb⟩)
                        clear HI
                        have HI := HI'
                        clear HI' hb
                        clear e0 e1 e2 e3 e4 e5 e6 e7 e8 e9 q0 q1 h0 h1
                        have e_ := HI.out.1
                        have e0 := (blk_cell e_ 0).trans rfl
                        have e1 := (blk_cell e_ 1).trans rfl
                        have e2 := (blk_cell e_ 2).trans rfl
                        have e3 := (blk_cell e_ 3).trans rfl
                        have e4 := (blk_cell e_ 4).trans rfl
                        have e5 := (blk_cell e_ 5).trans rfl
                        have e6 := (blk_cell e_ 6).trans rfl
                        have e7 := (blk_cell e_ 7).trans rfl
                        have e8 := (blk_cell e_ 8).trans rfl
                        have e9 := (blk_cell e_ 9).trans rfl
                        have q0 := (blk_cell HI.out.2.1 0).trans rfl
                        have q1 := (blk_cell HI.out.2.1 1).trans rfl
                        have h0 := (blk_cell HI.out.2.2.1 0).trans rfl
                        have h1 := (blk_cell HI.out.2.2.1 1).trans rfl
                        clear e_
                        go_wp2_with (fail)
                        refine (jobshellref46_Valid.calls 1000 s.text s.pos s.mark Ak ck s.kills Au cu s.undo Ar cr s.redo s.keys s.last s.line s.saved vi w3 (Kd.C_below K1.out HI.out.2.2.2) h1c (Kd.C_below K2.out HI.out.2.2.2) h2c (Kd.C_below K3.out HI.out.2.2.2) h3c HV.out).mono ?_
                        rintro e w4 ⟨rfl, hb⟩
                        have HI' := Aside0.mk (show CBox w4 w.heap.size s (.slice Ak s.kills.length ck) (.slice Au s.undo.length cu) (.slice Ar s.redo.length cr) ∧ w4.heap[w.heap.size + 1]? = some (.cells #[.int .i64 a, .string x] 36 (0, 0)) ∧ w4.heap[w.heap.size + 1 + 1]? = some (.cells #[.int .i64 s.off, .slice Al s.lines.length cl] 38 (0, 0)) ∧ Below w.heap.size w w4 from ⟨blk_below HI.out.1 hb, blk_below HI.out.2.1 hb, blk_below HI.out.2.2.1 hb, below_step HI.out.2.2.2 hb⟩)
                        clear HI
                        have HI := HI'
                        clear HI' hb
                        clear e0 e1 e2 e3 e4 e5 e6 e7 e8 e9 q0 q1 h0 h1
                        have e_ := HI.out.1
                        have e0 := (blk_cell e_ 0).trans rfl
                        have e1 := (blk_cell e_ 1).trans rfl
                        have e2 := (blk_cell e_ 2).trans rfl
                        have e3 := (blk_cell e_ 3).trans rfl
                        have e4 := (blk_cell e_ 4).trans rfl
                        have e5 := (blk_cell e_ 5).trans rfl
                        have e6 := (blk_cell e_ 6).trans rfl
                        have e7 := (blk_cell e_ 7).trans rfl
                        have e8 := (blk_cell e_ 8).trans rfl
                        have e9 := (blk_cell e_ 9).trans rfl
                        have q0 := (blk_cell HI.out.2.1 0).trans rfl
                        have q1 := (blk_cell HI.out.2.1 1).trans rfl
                        have h0 := (blk_cell HI.out.2.2.1 0).trans rfl
                        have h1 := (blk_cell HI.out.2.2.1 1).trans rfl
                        clear e_
                        go_wp2_with (fail)
                        have hed : EdC w4 s (.agg #[.string s.text, .int .i64 s.pos, .int .i64 s.mark, .slice Ak s.kills.length ck, .slice Au s.undo.length cu, .slice Ar s.redo.length cr, .string s.keys, .int .i64 s.last, .int .i64 s.line, .string s.saved]) := ⟨Ak, Au, Ar, ck, cu, cr, rfl, Kd.C_below K1.out HI.out.2.2.2, Kd.C_below K2.out HI.out.2.2.2, Kd.C_below K3.out HI.out.2.2.2⟩
                        have HED := Aside0.mk hed
                        clear hed
                        refine (do_calls w4 s a x _ _ HOK.out (by have := HXS.out; omega) HED.out ⟨Al, cl, rfl, hlc, Kd.C_below K4.out HI.out.2.2.2⟩).mono ?_
                        rw [← HX_.out]
                        rintro e w5 ⟨v4, rfl, hv4, hb4⟩
                        obtain ⟨Akx, Aux, Arx, ckx, cux, crx, rfl, g2, g3, g4⟩ := hv4.opn
                        obtain ⟨w6, hW⟩ : ∃ z, z = w5.alloc (.cells #[.string X.text, .int .i64 X.pos, .int .i64 X.mark, .slice Akx X.kills.length ckx, .slice Aux X.undo.length cux, .slice Arx X.redo.length crx, .string X.keys, .int .i64 X.last, .int .i64 X.line, .string X.saved] 27) := ⟨_, rfl⟩
                        have hba : Below w5.heap.size w5 w6 := by rw [hW]; exact below_alloc (Below.refl _ _) _
                        have hb : Below w4.heap.size w4 w6 := by rw [hW]; exact below_alloc hb4 _
                        have HXx := Aside0.mk (show XBox w6 w5.heap.size X from ⟨Akx, Aux, Arx, ckx, cux, crx, by rw [hW]; exact blk_new _ _, Kd.C_below g2 hba, Kd.C_below g3 hba, Kd.C_below g4 hba⟩)
                        have HW := Aside0.mk hW
                        clear hv4 g2 g3 g4 hW hba hb4
                        have HI' := Aside0.mk (show CBox w6 w.heap.size s (.slice Ak s.kills.length ck) (.slice Au s.undo.length cu) (.slice Ar s.redo.length cr) ∧ w6.heap[w.heap.size + 1]? = some (.cells #[.int .i64 a, .string x] 36 (0, 0)) ∧ w6.heap[w.heap.size + 1 + 1]? = some (.cells #[.int .i64 s.off, .slice Al s.lines.length cl] 38 (0, 0)) ∧ Below w.heap.size w w6 from ⟨blk_below HI.out.1 hb, blk_below HI.out.2.1 hb, blk_below HI.out.2.2.1 hb, below_step HI.out.2.2.2 hb⟩)
                        clear HI
                        have HI := HI'
                        clear HI' hb
                        go_upto_region 4 with (fail)
                        rw [← HW.out]
                        clear HW
                        obtain ⟨gx, hgx⟩ : ∃ z, z = w5.heap.size := ⟨_, rfl⟩
                        rw [← hgx] at HXx ⊢
                        clear hgx
                        clear e0 e1 e2 e3 e4 e5 e6 e7 e8 e9 q0 q1 h0 h1
                        have e_ := HI.out.1
                        have e0 := (blk_cell e_ 0).trans rfl
                        have e1 := (blk_cell e_ 1).trans rfl
                        have e2 := (blk_cell e_ 2).trans rfl
                        have e3 := (blk_cell e_ 3).trans rfl
                        have e4 := (blk_cell e_ 4).trans rfl
                        have e5 := (blk_cell e_ 5).trans rfl
                        have e6 := (blk_cell e_ 6).trans rfl
                        have e7 := (blk_cell e_ 7).trans rfl
                        have e8 := (blk_cell e_ 8).trans rfl
                        have e9 := (blk_cell e_ 9).trans rfl
                        have q0 := (blk_cell HI.out.2.1 0).trans rfl
                        have q1 := (blk_cell HI.out.2.1 1).trans rfl
                        have h0 := (blk_cell HI.out.2.2.1 0).trans rfl
                        have h1 := (blk_cell HI.out.2.2.1 1).trans rfl
                        clear e_
                        obtain ⟨Akx, Aux, Arx, ckx, cux, crx, hbx, hkx, hux, hrx⟩ := HXx.out
                        have x0 := (blk_cell hbx 0).trans rfl
                        have x1 := (blk_cell hbx 1).trans rfl
                        have x2 := (blk_cell hbx 2).trans rfl
                        have x3 := (blk_cell hbx 3).trans rfl
                        have x4 := (blk_cell hbx 4).trans rfl
                        have x5 := (blk_cell hbx 5).trans rfl
                        have x6 := (blk_cell hbx 6).trans rfl
                        have x7 := (blk_cell hbx 7).trans rfl
                        have x8 := (blk_cell hbx 8).trans rfl
                        have x9 := (blk_cell hbx 9).trans rfl
                        have hedx : EdC w6 X (.agg #[.string X.text, .int .i64 X.pos, .int .i64 X.mark, .slice Akx X.kills.length ckx, .slice Aux X.undo.length cux, .slice Arx X.redo.length crx, .string X.keys, .int .i64 X.last, .int .i64 X.line, .string X.saved]) := ⟨Akx, Aux, Arx, ckx, cux, crx, rfl, hkx, hux, hrx⟩
                        have HEDX := Aside0.mk hedx
                        clear hedx hkx hux hrx hbx
                        go_wp2_with (fail)
                        refine (do_calls w6 X 17 ⟨#[]⟩ _ _ HOKX.out (by decide) HEDX.out (HHI.out w6 (Kd.C_below K4.out HI.out.2.2.2)).1).mono ?_
                        rw [← HY_.out]
                        rintro e w7 ⟨v4, rfl, hv4, hb4⟩
                        obtain ⟨Aky, Auy, Ary, cky, cuy, cry, rfl, g2, g3, g4⟩ := hv4.opn
                        obtain ⟨w8, hW⟩ : ∃ z, z = w7.alloc (.cells #[.string Y.text, .int .i64 Y.pos, .int .i64 Y.mark, .slice Aky Y.kills.length cky, .slice Auy Y.undo.length cuy, .slice Ary Y.redo.length cry, .string Y.keys, .int .i64 Y.last, .int .i64 Y.line, .string Y.saved] 27) := ⟨_, rfl⟩
                        have hba : Below w7.heap.size w7 w8 := by rw [hW]; exact below_alloc (Below.refl _ _) _
                        have hb : Below w6.heap.size w6 w8 := by rw [hW]; exact below_alloc hb4 _
                        have HXy := Aside0.mk (show XBox w8 w7.heap.size Y from ⟨Aky, Auy, Ary, cky, cuy, cry, by rw [hW]; exact blk_new _ _, Kd.C_below g2 hba, Kd.C_below g3 hba, Kd.C_below g4 hba⟩)
                        have HXxn := Aside0.mk (HXx.out.below hb)
                        clear HXx
                        have HXx := HXxn
                        clear HXxn
                        have HW := Aside0.mk hW
                        clear hv4 g2 g3 g4 hW hba hb4
                        have HI' := Aside0.mk (show CBox w8 w.heap.size s (.slice Ak s.kills.length ck) (.slice Au s.undo.length cu) (.slice Ar s.redo.length cr) ∧ w8.heap[w.heap.size + 1]? = some (.cells #[.int .i64 a, .string x] 36 (0, 0)) ∧ w8.heap[w.heap.size + 1 + 1]? = some (.cells #[.int .i64 s.off, .slice Al s.lines.length cl] 38 (0, 0)) ∧ Below w.heap.size w w8 from ⟨blk_below HI.out.1 hb, blk_below HI.out.2.1 hb, blk_below HI.out.2.2.1 hb, below_step HI.out.2.2.2 hb⟩)
                        clear HI
                        have HI := HI'
                        clear HI' hb
                        go_upto_region 7 with (fail)
                        rw [← HW.out]
                        clear HW
                        obtain ⟨gy, hgy⟩ : ∃ z, z = w7.heap.size := ⟨_, rfl⟩
                        rw [← hgy] at HXy ⊢
                        clear hgy
                        clear e0 e1 e2 e3 e4 e5 e6 e7 e8 e9 q0 q1 h0 h1 x0 x1 x2 x3 x4 x5 x6 x7 x8 x9
                        have e_ := HI.out.1
                        have e0 := (blk_cell e_ 0).trans rfl
                        have e1 := (blk_cell e_ 1).trans rfl
                        have e2 := (blk_cell e_ 2).trans rfl
                        have e3 := (blk_cell e_ 3).trans rfl
                        have e4 := (blk_cell e_ 4).trans rfl
                        have e5 := (blk_cell e_ 5).trans rfl
                        have e6 := (blk_cell e_ 6).trans rfl
                        have e7 := (blk_cell e_ 7).trans rfl
                        have e8 := (blk_cell e_ 8).trans rfl
                        have e9 := (blk_cell e_ 9).trans rfl
                        have q0 := (blk_cell HI.out.2.1 0).trans rfl
                        have q1 := (blk_cell HI.out.2.1 1).trans rfl
                        have h0 := (blk_cell HI.out.2.2.1 0).trans rfl
                        have h1 := (blk_cell HI.out.2.2.1 1).trans rfl
                        clear e_
                        obtain ⟨Aky, Auy, Ary, cky, cuy, cry, hby, hky, huy, hry⟩ := HXy.out
                        have y0 := (blk_cell hby 0).trans rfl
                        have y1 := (blk_cell hby 1).trans rfl
                        have y2 := (blk_cell hby 2).trans rfl
                        have y3 := (blk_cell hby 3).trans rfl
                        have y4 := (blk_cell hby 4).trans rfl
                        have y5 := (blk_cell hby 5).trans rfl
                        have y6 := (blk_cell hby 6).trans rfl
                        have y7 := (blk_cell hby 7).trans rfl
                        have y8 := (blk_cell hby 8).trans rfl
                        have y9 := (blk_cell hby 9).trans rfl
                        have hedy : EdC w8 Y (.agg #[.string Y.text, .int .i64 Y.pos, .int .i64 Y.mark, .slice Aky Y.kills.length cky, .slice Auy Y.undo.length cuy, .slice Ary Y.redo.length cry, .string Y.keys, .int .i64 Y.last, .int .i64 Y.line, .string Y.saved]) := ⟨Aky, Auy, Ary, cky, cuy, cry, rfl, hky, huy, hry⟩
                        have HEDY := Aside0.mk hedy
                        clear hedy hky huy hry hby
                        go_wp2_with (fail)
                        refine (do_calls w8 Y 18 ⟨#[]⟩ _ _ HOKY.out (by decide) HEDY.out (HHI.out w8 (Kd.C_below K4.out HI.out.2.2.2)).2).mono ?_
                        rw [← HZ_.out]
                        rintro e w9 ⟨v4, rfl, hv4, hb4⟩
                        obtain ⟨Akz, Auz, Arz, ckz, cuz, crz, rfl, g2, g3, g4⟩ := hv4.opn
                        obtain ⟨wA, hW⟩ : ∃ z, z = w9.alloc (.cells #[.string Z.text, .int .i64 Z.pos, .int .i64 Z.mark, .slice Akz Z.kills.length ckz, .slice Auz Z.undo.length cuz, .slice Arz Z.redo.length crz, .string Z.keys, .int .i64 Z.last, .int .i64 Z.line, .string Z.saved] 27) := ⟨_, rfl⟩
                        have hba : Below w9.heap.size w9 wA := by rw [hW]; exact below_alloc (Below.refl _ _) _
                        have hb : Below w8.heap.size w8 wA := by rw [hW]; exact below_alloc hb4 _
                        have HXz := Aside0.mk (show XBox wA w9.heap.size Z from ⟨Akz, Auz, Arz, ckz, cuz, crz, by rw [hW]; exact blk_new _ _, Kd.C_below g2 hba, Kd.C_below g3 hba, Kd.C_below g4 hba⟩)
                        have HXxn := Aside0.mk (HXx.out.below hb)
                        clear HXx
                        have HXx := HXxn
                        clear HXxn
                        have HXyn := Aside0.mk (HXy.out.below hb)
                        clear HXy
                        have HXy := HXyn
                        clear HXyn
                        have HW := Aside0.mk hW
                        clear hv4 g2 g3 g4 hW hba hb4
                        have HI' := Aside0.mk (show CBox wA w.heap.size s (.slice Ak s.kills.length ck) (.slice Au s.undo.length cu) (.slice Ar s.redo.length cr) ∧ wA.heap[w.heap.size + 1]? = some (.cells #[.int .i64 a, .string x] 36 (0, 0)) ∧ wA.heap[w.heap.size + 1 + 1]? = some (.cells #[.int .i64 s.off, .slice Al s.lines.length cl] 38 (0, 0)) ∧ Below w.heap.size w wA from ⟨blk_below HI.out.1 hb, blk_below HI.out.2.1 hb, blk_below HI.out.2.2.1 hb, below_step HI.out.2.2.2 hb⟩)
                        clear HI
                        have HI := HI'
                        clear HI' hb
                        go_upto_region 8 with (fail)
                        rw [← HW.out]
                        clear HW
                        obtain ⟨gz, hgz⟩ : ∃ z, z = w9.heap.size := ⟨_, rfl⟩
                        rw [← hgz] at HXz ⊢
                        clear hgz
                        clear e0 e1 e2 e3 e4 e5 e6 e7 e8 e9 q0 q1 h0 h1 y0 y1 y2 y3 y4 y5 y6 y7 y8 y9
                        have e_ := HI.out.1
                        have e0 := (blk_cell e_ 0).trans rfl
                        have e1 := (blk_cell e_ 1).trans rfl
                        have e2 := (blk_cell e_ 2).trans rfl
                        have e3 := (blk_cell e_ 3).trans rfl
                        have e4 := (blk_cell e_ 4).trans rfl
                        have e5 := (blk_cell e_ 5).trans rfl
                        have e6 := (blk_cell e_ 6).trans rfl
                        have e7 := (blk_cell e_ 7).trans rfl
                        have e8 := (blk_cell e_ 8).trans rfl
                        have e9 := (blk_cell e_ 9).trans rfl
                        have q0 := (blk_cell HI.out.2.1 0).trans rfl
                        have q1 := (blk_cell HI.out.2.1 1).trans rfl
                        have h0 := (blk_cell HI.out.2.2.1 0).trans rfl
                        have h1 := (blk_cell HI.out.2.2.1 1).trans rfl
                        clear e_
                        obtain ⟨Akx, Aux, Arx, ckx, cux, crx, hbx, hkx, hux, hrx⟩ := HXx.out
                        have x0 := (blk_cell hbx 0).trans rfl
                        have x1 := (blk_cell hbx 1).trans rfl
                        obtain ⟨Aky, Auy, Ary, cky, cuy, cry, hby, hky, huy, hry⟩ := HXy.out
                        obtain ⟨Akz, Auz, Arz, ckz, cuz, crz, hbz, hkz, huz, hrz⟩ := HXz.out
                        have y0 : wA.cell? ⟨gy, 0, none⟩ = some (.string s.text) := by rw [← HUE.out.1]; exact (blk_cell hby 0).trans rfl
                        have y1 : wA.cell? ⟨gy, 1, none⟩ = some (.int .i64 s.pos) := by rw [← HUE.out.2.1]; exact (blk_cell hby 1).trans rfl
                        have z0 : wA.cell? ⟨gz, 0, none⟩ = some (.string X.text) := by rw [← HUE.out.2.2.1]; exact (blk_cell hbz 0).trans rfl
                        have z1 : wA.cell? ⟨gz, 1, none⟩ = some (.int .i64 X.pos) := by rw [← HUE.out.2.2.2]; exact (blk_cell hbz 1).trans rfl
                        clear hbx hkx hux hrx hby hky huy hry hbz hkz huz hrz
                        go_wp2_with (fail)
                        refine (awake_calls wA).mono ?_
                        rintro e wz ⟨rfl, hb⟩
                        have HZ := Aside0.mk (below_step HI.out.2.2.2 hb)
                        clear hb
                        go_wp2_with (fail)
                        go_ret
                        exact ⟨rfl, HZ.out⟩
        · have hvb : (vi != 0) = true := bne_iff_ne.mpr hv0
          clear hv0 hvi
          go_enter Try.func7, Try.ntmps7
          go_wp2_with (fail)
          rw [← HW1.out]
          refine (jobshelllaw46_few.calls 1000 s.text s.pos s.mark Ak ck s.kills Au cu s.undo Ar cr s.redo s.keys s.last s.line s.saved true w1 (Kd.C_below K1.out HI.out.2.2.2) h1c (Kd.C_below K2.out HI.out.2.2.2) h2c (Kd.C_below K3.out HI.out.2.2.2) h3c HF.out).mono ?_
          rintro e w2 ⟨rfl, hb⟩
          have HI' := Aside0.mk (show CBox w2 w.heap.size s (.slice Ak s.kills.length ck) (.slice Au s.undo.length cu) (.slice Ar s.redo.length cr) ∧ w2.heap[w.heap.size + 1]? = some (.cells #[.int .i64 a, .string x] 36 (0, 0)) ∧ w2.heap[w.heap.size + 1 + 1]? = some (.cells #[.int .i64 s.off, .slice Al s.lines.length cl] 38 (0, 0)) ∧ Below w.heap.size w w2 from ⟨blk_below HI.out.1 hb, blk_below HI.out.2.1 hb, blk_below HI.out.2.2.1 hb, below_step HI.out.2.2.2 hb⟩)
          clear HI
          have HI := HI'
          clear HI' hb
          have e_ := HI.out.1
          have e0 := (blk_cell e_ 0).trans rfl
          have e1 := (blk_cell e_ 1).trans rfl
          have e2 := (blk_cell e_ 2).trans rfl
          have e3 := (blk_cell e_ 3).trans rfl
          have e4 := (blk_cell e_ 4).trans rfl
          have e5 := (blk_cell e_ 5).trans rfl
          have e6 := (blk_cell e_ 6).trans rfl
          have e7 := (blk_cell e_ 7).trans rfl
          have e8 := (blk_cell e_ 8).trans rfl
          have e9 := (blk_cell e_ 9).trans rfl
          have q0 := (blk_cell HI.out.2.1 0).trans rfl
          have q1 := (blk_cell HI.out.2.1 1).trans rfl
          have h0 := (blk_cell HI.out.2.2.1 0).trans rfl
          have h1 := (blk_cell HI.out.2.2.1 1).trans rfl
          clear e_
          go_wp2_with (fail)
          refine (jobshelllaw46_lines.calls 1000 s.off Al cl s.lines true w2 (Kd.C_below K4.out HI.out.2.2.2) hlc HL.out).mono ?_
          rintro e w3 ⟨rfl, hb⟩
          have HI' := Aside0.mk (show CBox w3 w.heap.size s (.slice Ak s.kills.length ck) (.slice Au s.undo.length cu) (.slice Ar s.redo.length cr) ∧ w3.heap[w.heap.size + 1]? = some (.cells #[.int .i64 a, .string x] 36 (0, 0)) ∧ w3.heap[w.heap.size + 1 + 1]? = some (.cells #[.int .i64 s.off, .slice Al s.lines.length cl] 38 (0, 0)) ∧ Below w.heap.size w w3 from ⟨blk_below HI.out.1 hb, blk_below HI.out.2.1 hb, blk_below HI.out.2.2.1 hb, below_step HI.out.2.2.2 hb⟩)
          clear HI
          have HI := HI'
          clear HI' hb
          clear e0 e1 e2 e3 e4 e5 e6 e7 e8 e9 q0 q1 h0 h1
          have e_ := HI.out.1
          have e0 := (blk_cell e_ 0).trans rfl
          have e1 := (blk_cell e_ 1).trans rfl
          have e2 := (blk_cell e_ 2).trans rfl
          have e3 := (blk_cell e_ 3).trans rfl
          have e4 := (blk_cell e_ 4).trans rfl
          have e5 := (blk_cell e_ 5).trans rfl
          have e6 := (blk_cell e_ 6).trans rfl
          have e7 := (blk_cell e_ 7).trans rfl
          have e8 := (blk_cell e_ 8).trans rfl
          have e9 := (blk_cell e_ 9).trans rfl
          have q0 := (blk_cell HI.out.2.1 0).trans rfl
          have q1 := (blk_cell HI.out.2.1 1).trans rfl
          have h0 := (blk_cell HI.out.2.2.1 0).trans rfl
          have h1 := (blk_cell HI.out.2.2.1 1).trans rfl
          clear e_
          go_wp2_with (fail)
          refine (jobshellref46_Valid.calls 1000 s.text s.pos s.mark Ak ck s.kills Au cu s.undo Ar cr s.redo s.keys s.last s.line s.saved vi w3 (Kd.C_below K1.out HI.out.2.2.2) h1c (Kd.C_below K2.out HI.out.2.2.2) h2c (Kd.C_below K3.out HI.out.2.2.2) h3c HV.out).mono ?_
          rintro e w4 ⟨rfl, hb⟩
          have HI' := Aside0.mk (show CBox w4 w.heap.size s (.slice Ak s.kills.length ck) (.slice Au s.undo.length cu) (.slice Ar s.redo.length cr) ∧ w4.heap[w.heap.size + 1]? = some (.cells #[.int .i64 a, .string x] 36 (0, 0)) ∧ w4.heap[w.heap.size + 1 + 1]? = some (.cells #[.int .i64 s.off, .slice Al s.lines.length cl] 38 (0, 0)) ∧ Below w.heap.size w w4 from ⟨blk_below HI.out.1 hb, blk_below HI.out.2.1 hb, blk_below HI.out.2.2.1 hb, below_step HI.out.2.2.2 hb⟩)
          clear HI
          have HI := HI'
          clear HI' hb
          clear e0 e1 e2 e3 e4 e5 e6 e7 e8 e9 q0 q1 h0 h1
          have e_ := HI.out.1
          have e0 := (blk_cell e_ 0).trans rfl
          have e1 := (blk_cell e_ 1).trans rfl
          have e2 := (blk_cell e_ 2).trans rfl
          have e3 := (blk_cell e_ 3).trans rfl
          have e4 := (blk_cell e_ 4).trans rfl
          have e5 := (blk_cell e_ 5).trans rfl
          have e6 := (blk_cell e_ 6).trans rfl
          have e7 := (blk_cell e_ 7).trans rfl
          have e8 := (blk_cell e_ 8).trans rfl
          have e9 := (blk_cell e_ 9).trans rfl
          have q0 := (blk_cell HI.out.2.1 0).trans rfl
          have q1 := (blk_cell HI.out.2.1 1).trans rfl
          have h0 := (blk_cell HI.out.2.2.1 0).trans rfl
          have h1 := (blk_cell HI.out.2.2.1 1).trans rfl
          clear e_
          go_wp2_with (fail)
          refine (awake_calls w4).mono ?_
          rintro e wz ⟨rfl, hb⟩
          have HZ := Aside0.mk (below_step HI.out.2.2.2 hb)
          clear hb
          go_wp2_with (fail)
          go_ret
          exact ⟨rfl, HZ.out⟩
      · clear hvi
        have hxb : decide (5000 < x.size) = true := decide_eq_true (by omega)
        have hxc : decide ((5000 : Int) < (x.size : Int)) = true := decide_eq_true (by omega)
        clear hx0
        go_enter Try.func7, Try.ntmps7
        go_wp2_with (fail)
        rw [← HW1.out]
        refine (jobshelllaw46_few.calls 1000 s.text s.pos s.mark Ak ck s.kills Au cu s.undo Ar cr s.redo s.keys s.last s.line s.saved true w1 (Kd.C_below K1.out HI.out.2.2.2) h1c (Kd.C_below K2.out HI.out.2.2.2) h2c (Kd.C_below K3.out HI.out.2.2.2) h3c HF.out).mono ?_
        rintro e w2 ⟨rfl, hb⟩
        have HI' := Aside0.mk (show CBox w2 w.heap.size s (.slice Ak s.kills.length ck) (.slice Au s.undo.length cu) (.slice Ar s.redo.length cr) ∧ w2.heap[w.heap.size + 1]? = some (.cells #[.int .i64 a, .string x] 36 (0, 0)) ∧ w2.heap[w.heap.size + 1 + 1]? = some (.cells #[.int .i64 s.off, .slice Al s.lines.length cl] 38 (0, 0)) ∧ Below w.heap.size w w2 from ⟨blk_below HI.out.1 hb, blk_below HI.out.2.1 hb, blk_below HI.out.2.2.1 hb, below_step HI.out.2.2.2 hb⟩)
        clear HI
        have HI := HI'
        clear HI' hb
        have e_ := HI.out.1
        have e0 := (blk_cell e_ 0).trans rfl
        have e1 := (blk_cell e_ 1).trans rfl
        have e2 := (blk_cell e_ 2).trans rfl
        have e3 := (blk_cell e_ 3).trans rfl
        have e4 := (blk_cell e_ 4).trans rfl
        have e5 := (blk_cell e_ 5).trans rfl
        have e6 := (blk_cell e_ 6).trans rfl
        have e7 := (blk_cell e_ 7).trans rfl
        have e8 := (blk_cell e_ 8).trans rfl
        have e9 := (blk_cell e_ 9).trans rfl
        have q0 := (blk_cell HI.out.2.1 0).trans rfl
        have q1 := (blk_cell HI.out.2.1 1).trans rfl
        have h0 := (blk_cell HI.out.2.2.1 0).trans rfl
        have h1 := (blk_cell HI.out.2.2.1 1).trans rfl
        clear e_
        go_wp2_with (fail)
        refine (jobshelllaw46_lines.calls 1000 s.off Al cl s.lines true w2 (Kd.C_below K4.out HI.out.2.2.2) hlc HL.out).mono ?_
        rintro e w3 ⟨rfl, hb⟩
        have HI' := Aside0.mk (show CBox w3 w.heap.size s (.slice Ak s.kills.length ck) (.slice Au s.undo.length cu) (.slice Ar s.redo.length cr) ∧ w3.heap[w.heap.size + 1]? = some (.cells #[.int .i64 a, .string x] 36 (0, 0)) ∧ w3.heap[w.heap.size + 1 + 1]? = some (.cells #[.int .i64 s.off, .slice Al s.lines.length cl] 38 (0, 0)) ∧ Below w.heap.size w w3 from ⟨blk_below HI.out.1 hb, blk_below HI.out.2.1 hb, blk_below HI.out.2.2.1 hb, below_step HI.out.2.2.2 hb⟩)
        clear HI
        have HI := HI'
        clear HI' hb
        clear e0 e1 e2 e3 e4 e5 e6 e7 e8 e9 q0 q1 h0 h1
        have e_ := HI.out.1
        have e0 := (blk_cell e_ 0).trans rfl
        have e1 := (blk_cell e_ 1).trans rfl
        have e2 := (blk_cell e_ 2).trans rfl
        have e3 := (blk_cell e_ 3).trans rfl
        have e4 := (blk_cell e_ 4).trans rfl
        have e5 := (blk_cell e_ 5).trans rfl
        have e6 := (blk_cell e_ 6).trans rfl
        have e7 := (blk_cell e_ 7).trans rfl
        have e8 := (blk_cell e_ 8).trans rfl
        have e9 := (blk_cell e_ 9).trans rfl
        have q0 := (blk_cell HI.out.2.1 0).trans rfl
        have q1 := (blk_cell HI.out.2.1 1).trans rfl
        have h0 := (blk_cell HI.out.2.2.1 0).trans rfl
        have h1 := (blk_cell HI.out.2.2.1 1).trans rfl
        clear e_
        go_wp2_with (fail)
        refine (awake_calls w3).mono ?_
        rintro e wz ⟨rfl, hb⟩
        have HZ := Aside0.mk (below_step HI.out.2.2.2 hb)
        clear hb
        go_wp2_with (fail)
        go_ret
        exact ⟨rfl, HZ.out⟩

open Classical in
/-- The law's answer at what a machine can hold. -/
noncomputable def jobshelllaw46_EditorUndoes.f (k : Nat) (a0_0 : ByteArray) (a0_1 : Int) (a0_2 : Int) (l0_3 : List ByteArray) (l0_4 : List (S23)) (l0_5 : List (S23)) (a0_6 : ByteArray) (a0_7 : Int) (a0_8 : Int) (a0_9 : ByteArray) (a1_0 : Int) (a1_1 : ByteArray) (a2_0 : Int) (l2_1 : List ByteArray) : Option (Bool) := if Held ⟨a0_0, a0_1, a0_2, l0_3, l0_4, l0_5, a0_6, a0_7, a0_8, a0_9, a2_0, l2_1⟩ then some true else none
theorem jobshelllaw46_EditorUndoes.calls (k : Nat) (a0_0 : ByteArray) (a0_1 : Int) (a0_2 : Int) (A0_3 : Option Addr) (c0_3 : Nat) (l0_3 : List ByteArray) (A0_4 : Option Addr) (c0_4 : Nat) (l0_4 : List (S23)) (A0_5 : Option Addr) (c0_5 : Nat) (l0_5 : List (S23)) (a0_6 : ByteArray) (a0_7 : Int) (a0_8 : Int) (a0_9 : ByteArray) (a1_0 : Int) (a1_1 : ByteArray) (a2_0 : Int) (A2_1 : Option Addr) (c2_1 : Nat) (l2_1 : List ByteArray) (r : Bool) (w : World) (hr0_3 : Kd.C Kd.string w A0_3 l0_3.length l0_3) (hc0_3 : l0_3.length ≤ c0_3) (hr0_4 : Kd.C k23 w A0_4 l0_4.length l0_4) (hc0_4 : l0_4.length ≤ c0_4) (hr0_5 : Kd.C k23 w A0_5 l0_5.length l0_5) (hc0_5 : l0_5.length ≤ c0_5) (hr2_1 : Kd.C Kd.string w A2_1 l2_1.length l2_1) (hc2_1 : l2_1.length ≤ c2_1) (h : jobshelllaw46_EditorUndoes.f k a0_0 a0_1 a0_2 l0_3 l0_4 l0_5 a0_6 a0_7 a0_8 a0_9 a1_0 a1_1 a2_0 l2_1 = some r) :
    Calls Try.prog 7 #[.agg #[.string a0_0, .int .i64 a0_1, .int .i64 a0_2, .slice A0_3 l0_3.length c0_3, .slice A0_4 l0_4.length c0_4, .slice A0_5 l0_5.length c0_5, .string a0_6, .int .i64 a0_7, .int .i64 a0_8, .string a0_9], .agg #[.int .i64 a1_0, .string a1_1], .agg #[.int .i64 a2_0, .slice A2_1 l2_1.length c2_1]] w fun e w' => e = .returned (.bool r) ∧ Below w.heap.size w w' := by
  unfold jobshelllaw46_EditorUndoes.f at h
  split at h
  · rename_i hs
    injection h with h
    subst h
    exact undoes_walk w ⟨a0_0, a0_1, a0_2, l0_3, l0_4, l0_5, a0_6, a0_7, a0_8, a0_9, a2_0, l2_1⟩ a1_0 a1_1 A0_3 A0_4 A0_5 A2_1 c0_3 c0_4 c0_5 c2_1 hs hr0_3 hc0_3 hr0_4 hc0_4 hr0_5 hc0_5 hr2_1 hc2_1
  · cases h
end Go.Proofs.Ytlbbjdggebgabaa.P
