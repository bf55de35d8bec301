/- The law EditorHistory: its walk. -/
import Derived.Test.YtlbbjdggebgabaaRUM8
import Derived.Test.YtlbbjdggebgabaaRUM10
import Derived.Test.YtlbbjdggebgabaaRUM9
namespace Go.Proofs.Ytlbbjdggebgabaa.P
open Go.RowKit Go.Proofs.YtlbbjdggebgabaaW.PrintWords Go.Proofs.YtlbbjdggebgabaaW.PrintLast Go.Proofs.YtlbbjdggebgabaaW.PrintMore
set_option linter.unusedVariables false
set_option linter.unusedSimpArgs false

/-- A box that holds an editor as it came. -/
def CBox (W : World) (g : Nat) (s : St) (vk vu vr : Value) : Prop := W.heap[g]? = some (.cells #[.string s.text, .int .i64 s.pos, .int .i64 s.mark, vk, vu, vr, .string s.keys, .int .i64 s.last, .int .i64 s.line, .string s.saved] 27 (0, 0))
/-- A box that holds an editor, with its lists. -/
def XBox (W : World) (g : Nat) (s : St) : Prop := ∃ (Ak Au Ar : Option Addr) (ck cu cr : Nat), CBox W g s (.slice Ak s.kills.length ck) (.slice Au s.undo.length cu) (.slice Ar s.redo.length cr) ∧ Kd.C Kd.string W Ak s.kills.length s.kills ∧ Kd.C k23 W Au s.undo.length s.undo ∧ Kd.C k23 W Ar s.redo.length s.redo
theorem XBox.below {W W1 : World} {g : Nat} {s : St} (h : XBox W g s) (hb : Below W.heap.size W W1) : XBox W1 g s := by
  obtain ⟨Ak, Au, Ar, ck, cu, cr, h0, h1, h2, h3⟩ := h
  exact ⟨Ak, Au, Ar, ck, cu, cr, blk_below h0 hb, Kd.C_below h1 hb, Kd.C_below h2 hb, Kd.C_below h3 hb⟩
theorem EdC.opn {W : World} {s : St} {v : Value} (h : EdC W s v) : ∃ (Ak Au Ar : Option Addr) (ck cu cr : Nat), v = .agg #[.string s.text, .int .i64 s.pos, .int .i64 s.mark, .slice Ak s.kills.length ck, .slice Au s.undo.length cu, .slice Ar s.redo.length cr, .string s.keys, .int .i64 s.last, .int .i64 s.line, .string s.saved] ∧
    Kd.C Kd.string W Ak s.kills.length s.kills ∧ Kd.C k23 W Au s.undo.length s.undo ∧ Kd.C k23 W Ar s.redo.length s.redo := h
set_option maxHeartbeats 16000000 in
set_option maxRecDepth 100000 in
theorem hist_walk (w : World) (s : St) (Ak Au Ar Al : Option Addr) (ck cu cr cl : Nat) (hs : Held s) (h1 : Kd.C Kd.string w Ak s.kills.length s.kills) (h1c : s.kills.length ≤ ck) (h2 : Kd.C k23 w Au s.undo.length s.undo) (h2c : s.undo.length ≤ cu) (h3 : Kd.C k23 w Ar s.redo.length s.redo) (h3c : s.redo.length ≤ cr) (h5 : Kd.C Kd.string w Al s.lines.length s.lines) (hlc : s.lines.length ≤ cl) :
    Calls Try.prog 8 #[.agg #[.string s.text, .int .i64 s.pos, .int .i64 s.mark, .slice Ak s.kills.length ck, .slice Au s.undo.length cu, .slice Ar s.redo.length cr, .string s.keys, .int .i64 s.last, .int .i64 s.line, .string s.saved], .agg #[.int .i64 s.off, .slice Al s.lines.length cl]] w fun e w' => e = .returned (.bool true) ∧ Below w.heap.size w w' := by
  have hu27 := Try.underlying27
  have hu38 := Try.underlying38
  have hu36 := Try.underlying36
  have hu23 := Try.underlying23
  obtain ⟨rf, hf, hfi⟩ := few_f s hs
  obtain ⟨rl, hl, hli⟩ := lines_f s.off s.lines
  obtain ⟨w1, hw1⟩ : ∃ z, z = (w.alloc (.cells #[.string s.text, .int .i64 s.pos, .int .i64 s.mark, .slice Ak s.kills.length ck, .slice Au s.undo.length cu, .slice Ar s.redo.length cr, .string s.keys, .int .i64 s.last, .int .i64 s.line, .string s.saved] 27)).alloc (.cells #[.int .i64 s.off, .slice Al s.lines.length cl] 38) := ⟨_, rfl⟩
  have HI := Aside0.mk (show CBox w1 w.heap.size s (.slice Ak s.kills.length ck) (.slice Au s.undo.length cu) (.slice Ar s.redo.length cr) ∧ w1.heap[w.heap.size + 1]? = some (.cells #[.int .i64 s.off, .slice Al s.lines.length cl] 38 (0, 0)) ∧ Below w.heap.size w w1 from by rw [hw1]; exact ⟨blk_alloc (blk_new w _) _, blk_new2 w _ _ _, below_alloc (below_alloc (Below.refl _ _) _) _⟩)
  have K1 := Aside0.mk h1
  have K2 := Aside0.mk h2
  have K3 := Aside0.mk h3
  have K4 := Aside0.mk h5
  have HW1 := Aside0.mk hw1
  have HF := Aside0.mk hf
  have HL := Aside0.mk hl
  clear hw1 h1 h2 h3 h5 hf hl hs
  cases rf
  · clear hfi hli
    go_enter Try.func8, Try.ntmps8
    go_wp2_with (fail)
    rw [← HW1.out]
    refine (jobshelllaw46_few.calls 1000 s.text s.pos s.mark Ak ck s.kills Au cu s.undo Ar cr s.redo s.keys s.last s.line s.saved false w1 (Kd.C_below K1.out HI.out.2.2) h1c (Kd.C_below K2.out HI.out.2.2) h2c (Kd.C_below K3.out HI.out.2.2) h3c HF.out).mono ?_
    rintro e w2 ⟨rfl, hb⟩
    have HI' := Aside0.mk (show CBox w2 w.heap.size s (.slice Ak s.kills.length ck) (.slice Au s.undo.length cu) (.slice Ar s.redo.length cr) ∧ w2.heap[w.heap.size + 1]? = some (.cells #[.int .i64 s.off, .slice Al s.lines.length cl] 38 (0, 0)) ∧ Below w.heap.size w w2 from ⟨blk_below HI.out.1 hb, blk_below HI.out.2.1 hb, below_step HI.out.2.2 hb⟩)
    clear HI
    have HI := HI'
    clear HI' hb
    have e_ := HI.out.1
    have e0 := (blk_cell e_ 0).trans rfl
    have e1 := (blk_cell e_ 1).trans rfl
    have e2 := (blk_cell e_ 2).trans rfl
    have e3 := (blk_cell e_ 3).trans rfl
    have e4 := (blk_cell e_ 4).trans rfl
    have e5 := (blk_cell e_ 5).trans rfl
    have e6 := (blk_cell e_ 6).trans rfl
    have e7 := (blk_cell e_ 7).trans rfl
    have e8 := (blk_cell e_ 8).trans rfl
    have e9 := (blk_cell e_ 9).trans rfl
    have h0 := (blk_cell HI.out.2.1 0).trans rfl
    have h1 := (blk_cell HI.out.2.1 1).trans rfl
    clear e_
    go_wp2_with (fail)
    refine (awake_calls w2).mono ?_
    rintro e wz ⟨rfl, hb⟩
    have HZ := Aside0.mk (below_step HI.out.2.2 hb)
    clear hb
    go_wp2_with (fail)
    go_ret
    exact ⟨rfl, HZ.out⟩
  · cases rl
    · clear hfi hli
      go_enter Try.func8, Try.ntmps8
      go_wp2_with (fail)
      rw [← HW1.out]
      refine (jobshelllaw46_few.calls 1000 s.text s.pos s.mark Ak ck s.kills Au cu s.undo Ar cr s.redo s.keys s.last s.line s.saved true w1 (Kd.C_below K1.out HI.out.2.2) h1c (Kd.C_below K2.out HI.out.2.2) h2c (Kd.C_below K3.out HI.out.2.2) h3c HF.out).mono ?_
      rintro e w2 ⟨rfl, hb⟩
      have HI' := Aside0.mk (show CBox w2 w.heap.size s (.slice Ak s.kills.length ck) (.slice Au s.undo.length cu) (.slice Ar s.redo.length cr) ∧ w2.heap[w.heap.size + 1]? = some (.cells #[.int .i64 s.off, .slice Al s.lines.length cl] 38 (0, 0)) ∧ Below w.heap.size w w2 from ⟨blk_below HI.out.1 hb, blk_below HI.out.2.1 hb, below_step HI.out.2.2 hb⟩)
      clear HI
      have HI := HI'
      clear HI' hb
      have e_ := HI.out.1
      have e0 := (blk_cell e_ 0).trans rfl
      have e1 := (blk_cell e_ 1).trans rfl
      have e2 := (blk_cell e_ 2).trans rfl
      have e3 := (blk_cell e_ 3).trans rfl
      have e4 := (blk_cell e_ 4).trans rfl
      have e5 := (blk_cell e_ 5).trans rfl
      have e6 := (blk_cell e_ 6).trans rfl
      have e7 := (blk_cell e_ 7).trans rfl
      have e8 := (blk_cell e_ 8).trans rfl
      have e9 := (blk_cell e_ 9).trans rfl
      have h0 := (blk_cell HI.out.2.1 0).trans rfl
      have h1 := (blk_cell HI.out.2.1 1).trans rfl
      clear e_
      go_wp2_with (fail)
      refine (jobshelllaw46_lines.calls 1000 s.off Al cl s.lines false w2 (Kd.C_below K4.out HI.out.2.2) hlc HL.out).mono ?_
      rintro e w3 ⟨rfl, hb⟩
      have HI' := Aside0.mk (show CBox w3 w.heap.size s (.slice Ak s.kills.length ck) (.slice Au s.undo.length cu) (.slice Ar s.redo.length cr) ∧ w3.heap[w.heap.size + 1]? = some (.cells #[.int .i64 s.off, .slice Al s.lines.length cl] 38 (0, 0)) ∧ Below w.heap.size w w3 from ⟨blk_below HI.out.1 hb, blk_below HI.out.2.1 hb, below_step HI.out.2.2 hb⟩)
      clear HI
      have HI := HI'
      clear HI' hb
      clear e0 e1 e2 e3 e4 e5 e6 e7 e8 e9 h0 h1
      have e_ := HI.out.1
      have e0 := (blk_cell e_ 0).trans rfl
      have e1 := (blk_cell e_ 1).trans rfl
      have e2 := (blk_cell e_ 2).trans rfl
      have e3 := (blk_cell e_ 3).trans rfl
      have e4 := (blk_cell e_ 4).trans rfl
      have e5 := (blk_cell e_ 5).trans rfl
      have e6 := (blk_cell e_ 6).trans rfl
      have e7 := (blk_cell e_ 7).trans rfl
      have e8 := (blk_cell e_ 8).trans rfl
      have e9 := (blk_cell e_ 9).trans rfl
      have h0 := (blk_cell HI.out.2.1 0).trans rfl
      have h1 := (blk_cell HI.out.2.1 1).trans rfl
      clear e_
      go_wp2_with (fail)
      refine (awake_calls w3).mono ?_
      rintro e wz ⟨rfl, hb⟩
      have HZ := Aside0.mk (below_step HI.out.2.2 hb)
      clear hb
      go_wp2_with (fail)
      go_ret
      exact ⟨rfl, HZ.out⟩
    · have hfw : FewS s := hfi.mp rfl
      have hln := hli rfl
      have hv := rvalid_f s 1000 (by have := hfw.kills; omega) (by have := hfw.undo; omega) (by have := hfw.redo; omega) (by have h1 := hfw.kills; have h2 := hfw.undo; have h3 := hfw.redo; omega)
      obtain ⟨vi, hvi⟩ : ∃ z, z = validI s := ⟨_, rfl⟩
      rw [← hvi] at hv
      have HV := Aside0.mk hv
      have HFW := Aside0.mk hfw
      have HLN := Aside0.mk hln
      clear hv hfw hfi hli hln
      by_cases hv0 : vi = 0
      · by_cases hl0 : s.line = 0
        · have hgood : Good s := good_of s (hvi.symm.trans hv0)
          have hok := hgood.ok HLN.out
          obtain ⟨hud1, hud2, hud3⟩ := up_down hgood hl0 (⟨#[]⟩ : ByteArray)
          obtain ⟨X, hX⟩ : ∃ z, z = doS s 20 (⟨#[]⟩ : ByteArray) := ⟨_, rfl⟩
          have hXg : Good X := by rw [hX]; exact do_good hgood _ _
          have hXl : X.lines = s.lines ∧ X.off = s.off := by rw [hX]; exact do_keep s 20 _
          have hokX : OkS X := hXg.ok (by rw [hXl.1]; exact HLN.out)
          rw [← hX] at hud1 hud2 hud3
          obtain ⟨Y, hY⟩ : ∃ z, z = doS X 21 (⟨#[]⟩ : ByteArray) := ⟨_, rfl⟩
          rw [← hY] at hud1 hud2
          obtain ⟨T, hT⟩ : ∃ z, z = nthLast s.lines 1 := ⟨_, rfl⟩
          rw [← hT] at hud3
          have hvb : (vi != 0) = false := bne_eq_false_iff_eq.mpr hv0
          have hlb : (s.line != 0) = false := bne_eq_false_iff_eq.mpr hl0
          have HX_ := Aside0.mk hX
          have HY_ := Aside0.mk hY
          have HT_ := Aside0.mk hT
          have HOK := Aside0.mk hok
          have HOKX := Aside0.mk hokX
          have HXL := Aside0.mk hXl
          have U1 := Aside0.mk hud1
          have U2 := Aside0.mk hud2
          have U3 := Aside0.mk hud3
          have hlen : s.lines.length < 1000000 := by have := HLN.out; omega
          have HHi : ∀ W, Kd.C Kd.string W Al s.lines.length s.lines → HiC W X.off X.lines (.agg #[.int .i64 s.off, .slice Al s.lines.length cl]) := by
            intro W hC
            rw [hXl.1, hXl.2]
            exact ⟨Al, cl, rfl, hlc, hC⟩
          have HHI := Aside0.mk HHi
          clear hv0 hvi hgood hok hXg hXl hokX hX hY hT hud1 hud2 hud3 HHi hl0
          by_cases hn0 : 0 < s.lines.length
          · by_cases hz : T.size ≤ 4096
            · obtain ⟨ad, rfl⟩ : ∃ ad, Al = some ad := by
                obtain ⟨ad, _, ha, _⟩ := Kd.C_get K4.out ByteArray.empty 0 (by omega) (by omega)
                exact ⟨ad, ha⟩
              have hzb : decide ((T.size : Int) ≤ 4096) = true := decide_eq_true (by omega)
              have hzc : decide (T.size ≤ 4096) = true := decide_eq_true (by omega)
              have hxt := U3.out hn0 hz
              have HXT := Aside0.mk hxt
              clear hxt
              have HN0 := Aside0.mk hn0
              clear hz hn0
              go_enter Try.func8, Try.ntmps8
              go_wp2_with (fail)
              rw [← HW1.out]
              refine (jobshelllaw46_few.calls 1000 s.text s.pos s.mark Ak ck s.kills Au cu s.undo Ar cr s.redo s.keys s.last s.line s.saved true w1 (Kd.C_below K1.out HI.out.2.2) h1c (Kd.C_below K2.out HI.out.2.2) h2c (Kd.C_below K3.out HI.out.2.2) h3c HF.out).mono ?_
              rintro e w2 ⟨rfl, hb⟩
              have HI' := Aside0.mk (show CBox w2 w.heap.size s (.slice Ak s.kills.length ck) (.slice Au s.undo.length cu) (.slice Ar s.redo.length cr) ∧ w2.heap[w.heap.size + 1]? = some (.cells #[.int .i64 s.off, .slice (some ad) s.lines.length cl] 38 (0, 0)) ∧ Below w.heap.size w w2 from ⟨blk_below HI.out.1 hb, blk_below HI.out.2.1 hb, below_step HI.out.2.2 hb⟩)
              clear HI
              have HI := HI'
              clear HI' hb
              have e_ := HI.out.1
              have e0 := (blk_cell e_ 0).trans rfl
              have e1 := (blk_cell e_ 1).trans rfl
              have e2 := (blk_cell e_ 2).trans rfl
              have e3 := (blk_cell e_ 3).trans rfl
              have e4 := (blk_cell e_ 4).trans rfl
              have e5 := (blk_cell e_ 5).trans rfl
              have e6 := (blk_cell e_ 6).trans rfl
              have e7 := (blk_cell e_ 7).trans rfl
              have e8 := (blk_cell e_ 8).trans rfl
              have e9 := (blk_cell e_ 9).trans rfl
              have h0 := (blk_cell HI.out.2.1 0).trans rfl
              have h1 := (blk_cell HI.out.2.1 1).trans rfl
              clear e_
              go_wp2_with (fail)
              refine (jobshelllaw46_lines.calls 1000 s.off (some ad) cl s.lines true w2 (Kd.C_below K4.out HI.out.2.2) hlc HL.out).mono ?_
              rintro e w3 ⟨rfl, hb⟩
              have HI' := Aside0.mk (show CBox w3 w.heap.size s (.slice Ak s.kills.length ck) (.slice Au s.undo.length cu) (.slice Ar s.redo.length cr) ∧ w3.heap[w.heap.size + 1]? = some (.cells #[.int .i64 s.off, .slice (some ad) s.lines.length cl] 38 (0, 0)) ∧ Below w.heap.size w w3 from ⟨blk_below HI.out.1 hb, blk_below HI.out.2.1 hb, below_step HI.out.2.2 hb⟩)
              clear HI
              have HI := HI'
              clear HI' hb
              clear e0 e1 e2 e3 e4 e5 e6 e7 e8 e9 h0 h1
              have e_ := HI.out.1
              have e0 := (blk_cell e_ 0).trans rfl
              have e1 := (blk_cell e_ 1).trans rfl
              have e2 := (blk_cell e_ 2).trans rfl
              have e3 := (blk_cell e_ 3).trans rfl
              have e4 := (blk_cell e_ 4).trans rfl
              have e5 := (blk_cell e_ 5).trans rfl
              have e6 := (blk_cell e_ 6).trans rfl
              have e7 := (blk_cell e_ 7).trans rfl
              have e8 := (blk_cell e_ 8).trans rfl
              have e9 := (blk_cell e_ 9).trans rfl
              have h0 := (blk_cell HI.out.2.1 0).trans rfl
              have h1 := (blk_cell HI.out.2.1 1).trans rfl
              clear e_
              go_wp2_with (fail)
              refine (jobshellref46_Valid.calls 1000 s.text s.pos s.mark Ak ck s.kills Au cu s.undo Ar cr s.redo s.keys s.last s.line s.saved vi w3 (Kd.C_below K1.out HI.out.2.2) h1c (Kd.C_below K2.out HI.out.2.2) h2c (Kd.C_below K3.out HI.out.2.2) h3c HV.out).mono ?_
              rintro e w4 ⟨rfl, hb⟩
              have HI' := Aside0.mk (show CBox w4 w.heap.size s (.slice Ak s.kills.length ck) (.slice Au s.undo.length cu) (.slice Ar s.redo.length cr) ∧ w4.heap[w.heap.size + 1]? = some (.cells #[.int .i64 s.off, .slice (some ad) s.lines.length cl] 38 (0, 0)) ∧ Below w.heap.size w w4 from ⟨blk_below HI.out.1 hb, blk_below HI.out.2.1 hb, below_step HI.out.2.2 hb⟩)
              clear HI
              have HI := HI'
              clear HI' hb
              clear e0 e1 e2 e3 e4 e5 e6 e7 e8 e9 h0 h1
              have e_ := HI.out.1
              have e0 := (blk_cell e_ 0).trans rfl
              have e1 := (blk_cell e_ 1).trans rfl
              have e2 := (blk_cell e_ 2).trans rfl
              have e3 := (blk_cell e_ 3).trans rfl
              have e4 := (blk_cell e_ 4).trans rfl
              have e5 := (blk_cell e_ 5).trans rfl
              have e6 := (blk_cell e_ 6).trans rfl
              have e7 := (blk_cell e_ 7).trans rfl
              have e8 := (blk_cell e_ 8).trans rfl
              have e9 := (blk_cell e_ 9).trans rfl
              have h0 := (blk_cell HI.out.2.1 0).trans rfl
              have h1 := (blk_cell HI.out.2.1 1).trans rfl
              clear e_
              go_wp2_with (fail)
              have hed : EdC w4 s (.agg #[.string s.text, .int .i64 s.pos, .int .i64 s.mark, .slice Ak s.kills.length ck, .slice Au s.undo.length cu, .slice Ar s.redo.length cr, .string s.keys, .int .i64 s.last, .int .i64 s.line, .string s.saved]) := ⟨Ak, Au, Ar, ck, cu, cr, rfl, Kd.C_below K1.out HI.out.2.2, Kd.C_below K2.out HI.out.2.2, Kd.C_below K3.out HI.out.2.2⟩
              have HED := Aside0.mk hed
              clear hed
              refine (do_calls w4 s 20 ⟨#[]⟩ _ _ HOK.out (by decide) HED.out ⟨some ad, cl, rfl, hlc, Kd.C_below K4.out HI.out.2.2⟩).mono ?_
              rw [← HX_.out]
              rintro e w5 ⟨v4, rfl, hv4, hb4⟩
              obtain ⟨Akx, Aux, Arx, ckx, cux, crx, rfl, g2, g3, g4⟩ := hv4.opn
              obtain ⟨w6, hW⟩ : ∃ z, z = w5.alloc (.cells #[.string X.text, .int .i64 X.pos, .int .i64 X.mark, .slice Akx X.kills.length ckx, .slice Aux X.undo.length cux, .slice Arx X.redo.length crx, .string X.keys, .int .i64 X.last, .int .i64 X.line, .string X.saved] 27) := ⟨_, rfl⟩
              have hba : Below w5.heap.size w5 w6 := by rw [hW]; exact below_alloc (Below.refl _ _) _
              have hb : Below w4.heap.size w4 w6 := by rw [hW]; exact below_alloc hb4 _
              have HXx := Aside0.mk (show XBox w6 w5.heap.size X from ⟨Akx, Aux, Arx, ckx, cux, crx, by rw [hW]; exact blk_new _ _, Kd.C_below g2 hba, Kd.C_below g3 hba, Kd.C_below g4 hba⟩)
              have HW := Aside0.mk hW
              clear hv4 g2 g3 g4 hW hba hb4
              have HI' := Aside0.mk (show CBox w6 w.heap.size s (.slice Ak s.kills.length ck) (.slice Au s.undo.length cu) (.slice Ar s.redo.length cr) ∧ w6.heap[w.heap.size + 1]? = some (.cells #[.int .i64 s.off, .slice (some ad) s.lines.length cl] 38 (0, 0)) ∧ Below w.heap.size w w6 from ⟨blk_below HI.out.1 hb, blk_below HI.out.2.1 hb, below_step HI.out.2.2 hb⟩)
              clear HI
              have HI := HI'
              clear HI' hb
              go_upto_region 4 with (fail)
              rw [← HW.out]
              clear HW
              obtain ⟨gx, hgx⟩ : ∃ z, z = w5.heap.size := ⟨_, rfl⟩
              rw [← hgx] at HXx ⊢
              clear hgx
              clear e0 e1 e2 e3 e4 e5 e6 e7 e8 e9 h0 h1
              have e_ := HI.out.1
              have e0 := (blk_cell e_ 0).trans rfl
              have e1 := (blk_cell e_ 1).trans rfl
              have e2 := (blk_cell e_ 2).trans rfl
              have e3 := (blk_cell e_ 3).trans rfl
              have e4 := (blk_cell e_ 4).trans rfl
              have e5 := (blk_cell e_ 5).trans rfl
              have e6 := (blk_cell e_ 6).trans rfl
              have e7 := (blk_cell e_ 7).trans rfl
              have e8 := (blk_cell e_ 8).trans rfl
              have e9 := (blk_cell e_ 9).trans rfl
              have h0 := (blk_cell HI.out.2.1 0).trans rfl
              have h1 := (blk_cell HI.out.2.1 1).trans rfl
              clear e_
              obtain ⟨Akx, Aux, Arx, ckx, cux, crx, hbx, hkx, hux, hrx⟩ := HXx.out
              have x0 := (blk_cell hbx 0).trans rfl
              have x1 := (blk_cell hbx 1).trans rfl
              have x2 := (blk_cell hbx 2).trans rfl
              have x3 := (blk_cell hbx 3).trans rfl
              have x4 := (blk_cell hbx 4).trans rfl
              have x5 := (blk_cell hbx 5).trans rfl
              have x6 := (blk_cell hbx 6).trans rfl
              have x7 := (blk_cell hbx 7).trans rfl
              have x8 := (blk_cell hbx 8).trans rfl
              have x9 := (blk_cell hbx 9).trans rfl
              have hedx : EdC w6 X (.agg #[.string X.text, .int .i64 X.pos, .int .i64 X.mark, .slice Akx X.kills.length ckx, .slice Aux X.undo.length cux, .slice Arx X.redo.length crx, .string X.keys, .int .i64 X.last, .int .i64 X.line, .string X.saved]) := ⟨Akx, Aux, Arx, ckx, cux, crx, rfl, hkx, hux, hrx⟩
              have HEDX := Aside0.mk hedx
              clear hedx hkx hux hrx hbx
              go_wp2_with (fail)
              refine (do_calls w6 X 21 ⟨#[]⟩ _ _ HOKX.out (by decide) HEDX.out (HHI.out w6 (Kd.C_below K4.out HI.out.2.2))).mono ?_
              rw [← HY_.out]
              rintro e w7 ⟨v4, rfl, hv4, hb4⟩
              obtain ⟨Aky, Auy, Ary, cky, cuy, cry, rfl, g2, g3, g4⟩ := hv4.opn
              obtain ⟨w8, hW⟩ : ∃ z, z = w7.alloc (.cells #[.string Y.text, .int .i64 Y.pos, .int .i64 Y.mark, .slice Aky Y.kills.length cky, .slice Auy Y.undo.length cuy, .slice Ary Y.redo.length cry, .string Y.keys, .int .i64 Y.last, .int .i64 Y.line, .string Y.saved] 27) := ⟨_, rfl⟩
              have hba : Below w7.heap.size w7 w8 := by rw [hW]; exact below_alloc (Below.refl _ _) _
              have hb : Below w6.heap.size w6 w8 := by rw [hW]; exact below_alloc hb4 _
              have HXy := Aside0.mk (show XBox w8 w7.heap.size Y from ⟨Aky, Auy, Ary, cky, cuy, cry, by rw [hW]; exact blk_new _ _, Kd.C_below g2 hba, Kd.C_below g3 hba, Kd.C_below g4 hba⟩)
              have HXxn := Aside0.mk (HXx.out.below hb)
              clear HXx
              have HXx := HXxn
              clear HXxn
              have HW := Aside0.mk hW
              clear hv4 g2 g3 g4 hW hba hb4
              have HI' := Aside0.mk (show CBox w8 w.heap.size s (.slice Ak s.kills.length ck) (.slice Au s.undo.length cu) (.slice Ar s.redo.length cr) ∧ w8.heap[w.heap.size + 1]? = some (.cells #[.int .i64 s.off, .slice (some ad) s.lines.length cl] 38 (0, 0)) ∧ Below w.heap.size w w8 from ⟨blk_below HI.out.1 hb, blk_below HI.out.2.1 hb, below_step HI.out.2.2 hb⟩)
              clear HI
              have HI := HI'
              clear HI' hb
              go_upto_region 5 with (fail)
              rw [← HW.out]
              clear HW
              obtain ⟨gy, hgy⟩ : ∃ z, z = w7.heap.size := ⟨_, rfl⟩
              rw [← hgy] at HXy ⊢
              clear hgy
              clear e0 e1 e2 e3 e4 e5 e6 e7 e8 e9 h0 h1 x0 x1 x2 x3 x4 x5 x6 x7 x8 x9
              have e_ := HI.out.1
              have e0 := (blk_cell e_ 0).trans rfl
              have e1 := (blk_cell e_ 1).trans rfl
              have e2 := (blk_cell e_ 2).trans rfl
              have e3 := (blk_cell e_ 3).trans rfl
              have e4 := (blk_cell e_ 4).trans rfl
              have e5 := (blk_cell e_ 5).trans rfl
              have e6 := (blk_cell e_ 6).trans rfl
              have e7 := (blk_cell e_ 7).trans rfl
              have e8 := (blk_cell e_ 8).trans rfl
              have e9 := (blk_cell e_ 9).trans rfl
              have h0 := (blk_cell HI.out.2.1 0).trans rfl
              have h1 := (blk_cell HI.out.2.1 1).trans rfl
              clear e_
              obtain ⟨Akx, Aux, Arx, ckx, cux, crx, hbx, hkx, hux, hrx⟩ := HXx.out
              have x0 : w8.cell? ⟨gx, 0, none⟩ = some (.string T) := by rw [← HXT.out]; exact (blk_cell hbx 0).trans rfl
              obtain ⟨Aky, Auy, Ary, cky, cuy, cry, hby, hky, huy, hry⟩ := HXy.out
              have y0 : w8.cell? ⟨gy, 0, none⟩ = some (.string s.text) := by rw [← U1.out]; exact (blk_cell hby 0).trans rfl
              have y8 : w8.cell? ⟨gy, 8, none⟩ = some (.int .i64 0) := by rw [← U2.out]; exact (blk_cell hby 8).trans rfl
              clear hbx hkx hux hrx hby hky huy hry
              have hcell := Kd.foot_string (Kd.C_below K4.out HI.out.2.2) ((s.lines.length : Int) - 1) (by have := HN0.out; omega) (by omega)
              rw [show rdOf ByteArray.empty s.lines ((s.lines.length : Int) - 1) = T by rw [HT_.out]; rfl, show ((s.lines.length : Int) - 1).toNat = s.lines.length - 1 by omega] at hcell
              have hw1 : IntKind.i64.wrap ((s.lines.length : Int) - 1) = ((s.lines.length - 1 : Nat) : Int) := by have := HN0.out; rw [IntKind.wrap_i64]; omega
              have hw2 : s.lines.length - 1 < s.lines.length := by have := HN0.out; omega
              have hn1 : decide (0 < s.lines.length) = true := decide_eq_true HN0.out
              go_wp2_with (fail)
              go_quiet (fail)
              go_wp2_with (fail)
              have HI8 := Aside0.mk (show Below w.heap.size w (w8.drewN nq) from pw_below_drewN HI.out.2.2 nq)
              refine (awake_calls (w8.drewN nq)).mono ?_
              rintro e wz ⟨rfl, hb⟩
              have HZ := Aside0.mk (below_step HI8.out hb)
              clear hb
              go_wp2_with (fail)
              go_ret
              exact ⟨rfl, HZ.out⟩
            · obtain ⟨ad, rfl⟩ : ∃ ad, Al = some ad := by
                obtain ⟨ad, _, ha, _⟩ := Kd.C_get K4.out ByteArray.empty 0 (by omega) (by omega)
                exact ⟨ad, ha⟩
              have hzb : decide ((T.size : Int) ≤ 4096) = false := decide_eq_false (by omega)
              have hzc : decide (T.size ≤ 4096) = false := decide_eq_false (by omega)
              have HN0 := Aside0.mk hn0
              clear hz hn0
              go_enter Try.func8, Try.ntmps8
              go_wp2_with (fail)
              rw [← HW1.out]
              refine (jobshelllaw46_few.calls 1000 s.text s.pos s.mark Ak ck s.kills Au cu s.undo Ar cr s.redo s.keys s.last s.line s.saved true w1 (Kd.C_below K1.out HI.out.2.2) h1c (Kd.C_below K2.out HI.out.2.2) h2c (Kd.C_below K3.out HI.out.2.2) h3c HF.out).mono ?_
              rintro e w2 ⟨rfl, hb⟩
              have HI' := Aside0.mk (show CBox w2 w.heap.size s (.slice Ak s.kills.length ck) (.slice Au s.undo.length cu) (.slice Ar s.redo.length cr) ∧ w2.heap[w.heap.size + 1]? = some (.cells #[.int .i64 s.off, .slice (some ad) s.lines.length cl] 38 (0, 0)) ∧ Below w.heap.size w w2 from ⟨blk_below HI.out.1 hb, blk_below HI.out.2.1 hb, below_step HI.out.2.2 hb⟩)
              clear HI
              have HI := HI'
              clear HI' hb
              have e_ := HI.out.1
              have e0 := (blk_cell e_ 0).trans rfl
              have e1 := (blk_cell e_ 1).trans rfl
              have e2 := (blk_cell e_ 2).trans rfl
              have e3 := (blk_cell e_ 3).trans rfl
              have e4 := (blk_cell e_ 4).trans rfl
              have e5 := (blk_cell e_ 5).trans rfl
              have e6 := (blk_cell e_ 6).trans rfl
              have e7 := (blk_cell e_ 7).trans rfl
              have e8 := (blk_cell e_ 8).trans rfl
              have e9 := (blk_cell e_ 9).trans rfl
              have h0 := (blk_cell HI.out.2.1 0).trans rfl
              have h1 := (blk_cell HI.out.2.1 1).trans rfl
              clear e_
              go_wp2_with (fail)
              refine (jobshelllaw46_lines.calls 1000 s.off (some ad) cl s.lines true w2 (Kd.C_below K4.out HI.out.2.2) hlc HL.out).mono ?_
              rintro e w3 ⟨rfl, hb⟩
              have HI' := Aside0.mk (show CBox w3 w.heap.size s (.slice Ak s.kills.length ck) (.slice Au s.undo.length cu) (.slice Ar s.redo.length cr) ∧ w3.heap[w.heap.size + 1]? = some (.cells #[.int .i64 s.off, .slice (some ad) s.lines.length cl] 38 (0, 0)) ∧ Below w.heap.size w w3 from ⟨blk_below HI.out.1 hb, blk_below HI.out.2.1 hb, below_step HI.out.2.2 hb⟩)
              clear HI
              have HI := HI'
              clear HI' hb
              clear e0 e1 e2 e3 e4 e5 e6 e7 e8 e9 h0 h1
              have e_ := HI.out.1
              have e0 := (blk_cell e_ 0).trans rfl
              have e1 := (blk_cell e_ 1).trans rfl
              have e2 := (blk_cell e_ 2).trans rfl
              have e3 := (blk_cell e_ 3).trans rfl
              have e4 := (blk_cell e_ 4).trans rfl
              have e5 := (blk_cell e_ 5).trans rfl
              have e6 := (blk_cell e_ 6).trans rfl
              have e7 := (blk_cell e_ 7).trans rfl
              have e8 := (blk_cell e_ 8).trans rfl
              have e9 := (blk_cell e_ 9).trans rfl
              have h0 := (blk_cell HI.out.2.1 0).trans rfl
              have h1 := (blk_cell HI.out.2.1 1).trans rfl
              clear e_
              go_wp2_with (fail)
              refine (jobshellref46_Valid.calls 1000 s.text s.pos s.mark Ak ck s.kills Au cu s.undo Ar cr s.redo s.keys s.last s.line s.saved vi w3 (Kd.C_below K1.out HI.out.2.2) h1c (Kd.C_below K2.out HI.out.2.2) h2c (Kd.C_below K3.out HI.out.2.2) h3c HV.out).mono ?_
              rintro e w4 ⟨rfl, hb⟩
              have HI' := Aside0.mk (show CBox w4 w.heap.size s (.slice Ak s.kills.length ck) (.slice Au s.undo.length cu) (.slice Ar s.redo.length cr) ∧ w4.heap[w.heap.size + 1]? = some (.cells #[.int .i64 s.off, .slice (some ad) s.lines.length cl] 38 (0, 0)) ∧ Below w.heap.size w w4 from ⟨blk_below HI.out.1 hb, blk_below HI.out.2.1 hb, below_step HI.out.2.2 hb⟩)
              clear HI
              have HI := HI'
              clear HI' hb
              clear e0 e1 e2 e3 e4 e5 e6 e7 e8 e9 h0 h1
              have e_ := HI.out.1
              have e0 := (blk_cell e_ 0).trans rfl
              have e1 := (blk_cell e_ 1).trans rfl
              have e2 := (blk_cell e_ 2).trans rfl
              have e3 := (blk_cell e_ 3).trans rfl
              have e4 := (blk_cell e_ 4).trans rfl
              have e5 := (blk_cell e_ 5).trans rfl
              have e6 := (blk_cell e_ 6).trans rfl
              have e7 := (blk_cell e_ 7).trans rfl
              have e8 := (blk_cell e_ 8).trans rfl
              have e9 := (blk_cell e_ 9).trans rfl
              have h0 := (blk_cell HI.out.2.1 0).trans rfl
              have h1 := (blk_cell HI.out.2.1 1).trans rfl
              clear e_
              go_wp2_with (fail)
              have hed : EdC w4 s (.agg #[.string s.text, .int .i64 s.pos, .int .i64 s.mark, .slice Ak s.kills.length ck, .slice Au s.undo.length cu, .slice Ar s.redo.length cr, .string s.keys, .int .i64 s.last, .int .i64 s.line, .string s.saved]) := ⟨Ak, Au, Ar, ck, cu, cr, rfl, Kd.C_below K1.out HI.out.2.2, Kd.C_below K2.out HI.out.2.2, Kd.C_below K3.out HI.out.2.2⟩
              have HED := Aside0.mk hed
              clear hed
              refine (do_calls w4 s 20 ⟨#[]⟩ _ _ HOK.out (by decide) HED.out ⟨some ad, cl, rfl, hlc, Kd.C_below K4.out HI.out.2.2⟩).mono ?_
              rw [← HX_.out]
              rintro e w5 ⟨v4, rfl, hv4, hb4⟩
              obtain ⟨Akx, Aux, Arx, ckx, cux, crx, rfl, g2, g3, g4⟩ := hv4.opn
              obtain ⟨w6, hW⟩ : ∃ z, z = w5.alloc (.cells #[.string X.text, .int .i64 X.pos, .int .i64 X.mark, .slice Akx X.kills.length ckx, .slice Aux X.undo.length cux, .slice Arx X.redo.length crx, .string X.keys, .int .i64 X.last, .int .i64 X.line, .string X.saved] 27) := ⟨_, rfl⟩
              have hba : Below w5.heap.size w5 w6 := by rw [hW]; exact below_alloc (Below.refl _ _) _
              have hb : Below w4.heap.size w4 w6 := by rw [hW]; exact below_alloc hb4 _
              have HXx := Aside0.mk (show XBox w6 w5.heap.size X from ⟨Akx, Aux, Arx, ckx, cux, crx, by rw [hW]; exact blk_new _ _, Kd.C_below g2 hba, Kd.C_below g3 hba, Kd.C_below g4 hba⟩)
              have HW := Aside0.mk hW
              clear hv4 g2 g3 g4 hW hba hb4
              have HI' := Aside0.mk (show CBox w6 w.heap.size s (.slice Ak s.kills.length ck) (.slice Au s.undo.length cu) (.slice Ar s.redo.length cr) ∧ w6.heap[w.heap.size + 1]? = some (.cells #[.int .i64 s.off, .slice (some ad) s.lines.length cl] 38 (0, 0)) ∧ Below w.heap.size w w6 from ⟨blk_below HI.out.1 hb, blk_below HI.out.2.1 hb, below_step HI.out.2.2 hb⟩)
              clear HI
              have HI := HI'
              clear HI' hb
              go_upto_region 4 with (fail)
              rw [← HW.out]
              clear HW
              obtain ⟨gx, hgx⟩ : ∃ z, z = w5.heap.size := ⟨_, rfl⟩
              rw [← hgx] at HXx ⊢
              clear hgx
              clear e0 e1 e2 e3 e4 e5 e6 e7 e8 e9 h0 h1
              have e_ := HI.out.1
              have e0 := (blk_cell e_ 0).trans rfl
              have e1 := (blk_cell e_ 1).trans rfl
              have e2 := (blk_cell e_ 2).trans rfl
              have e3 := (blk_cell e_ 3).trans rfl
              have e4 := (blk_cell e_ 4).trans rfl
              have e5 := (blk_cell e_ 5).trans rfl
              have e6 := (blk_cell e_ 6).trans rfl
              have e7 := (blk_cell e_ 7).trans rfl
              have e8 := (blk_cell e_ 8).trans rfl
              have e9 := (blk_cell e_ 9).trans rfl
              have h0 := (blk_cell HI.out.2.1 0).trans rfl
              have h1 := (blk_cell HI.out.2.1 1).trans rfl
              clear e_
              obtain ⟨Akx, Aux, Arx, ckx, cux, crx, hbx, hkx, hux, hrx⟩ := HXx.out
              have x0 := (blk_cell hbx 0).trans rfl
              have x1 := (blk_cell hbx 1).trans rfl
              have x2 := (blk_cell hbx 2).trans rfl
              have x3 := (blk_cell hbx 3).trans rfl
              have x4 := (blk_cell hbx 4).trans rfl
              have x5 := (blk_cell hbx 5).trans rfl
              have x6 := (blk_cell hbx 6).trans rfl
              have x7 := (blk_cell hbx 7).trans rfl
              have x8 := (blk_cell hbx 8).trans rfl
              have x9 := (blk_cell hbx 9).trans rfl
              have hedx : EdC w6 X (.agg #[.string X.text, .int .i64 X.pos, .int .i64 X.mark, .slice Akx X.kills.length ckx, .slice Aux X.undo.length cux, .slice Arx X.redo.length crx, .string X.keys, .int .i64 X.last, .int .i64 X.line, .string X.saved]) := ⟨Akx, Aux, Arx, ckx, cux, crx, rfl, hkx, hux, hrx⟩
              have HEDX := Aside0.mk hedx
              clear hedx hkx hux hrx hbx
              go_wp2_with (fail)
              refine (do_calls w6 X 21 ⟨#[]⟩ _ _ HOKX.out (by decide) HEDX.out (HHI.out w6 (Kd.C_below K4.out HI.out.2.2))).mono ?_
              rw [← HY_.out]
              rintro e w7 ⟨v4, rfl, hv4, hb4⟩
              obtain ⟨Aky, Auy, Ary, cky, cuy, cry, rfl, g2, g3, g4⟩ := hv4.opn
              obtain ⟨w8, hW⟩ : ∃ z, z = w7.alloc (.cells #[.string Y.text, .int .i64 Y.pos, .int .i64 Y.mark, .slice Aky Y.kills.length cky, .slice Auy Y.undo.length cuy, .slice Ary Y.redo.length cry, .string Y.keys, .int .i64 Y.last, .int .i64 Y.line, .string Y.saved] 27) := ⟨_, rfl⟩
              have hba : Below w7.heap.size w7 w8 := by rw [hW]; exact below_alloc (Below.refl _ _) _
              have hb : Below w6.heap.size w6 w8 := by rw [hW]; exact below_alloc hb4 _
              have HXy := Aside0.mk (show XBox w8 w7.heap.size Y from ⟨Aky, Auy, Ary, cky, cuy, cry, by rw [hW]; exact blk_new _ _, Kd.C_below g2 hba, Kd.C_below g3 hba, Kd.C_below g4 hba⟩)
              have HXxn := Aside0.mk (HXx.out.below hb)
              clear HXx
              have HXx := HXxn
              clear HXxn
              have HW := Aside0.mk hW
              clear hv4 g2 g3 g4 hW hba hb4
              have HI' := Aside0.mk (show CBox w8 w.heap.size s (.slice Ak s.kills.length ck) (.slice Au s.undo.length cu) (.slice Ar s.redo.length cr) ∧ w8.heap[w.heap.size + 1]? = some (.cells #[.int .i64 s.off, .slice (some ad) s.lines.length cl] 38 (0, 0)) ∧ Below w.heap.size w w8 from ⟨blk_below HI.out.1 hb, blk_below HI.out.2.1 hb, below_step HI.out.2.2 hb⟩)
              clear HI
              have HI := HI'
              clear HI' hb
              go_upto_region 5 with (fail)
              rw [← HW.out]
              clear HW
              obtain ⟨gy, hgy⟩ : ∃ z, z = w7.heap.size := ⟨_, rfl⟩
              rw [← hgy] at HXy ⊢
              clear hgy
              clear e0 e1 e2 e3 e4 e5 e6 e7 e8 e9 h0 h1 x0 x1 x2 x3 x4 x5 x6 x7 x8 x9
              have e_ := HI.out.1
              have e0 := (blk_cell e_ 0).trans rfl
              have e1 := (blk_cell e_ 1).trans rfl
              have e2 := (blk_cell e_ 2).trans rfl
              have e3 := (blk_cell e_ 3).trans rfl
              have e4 := (blk_cell e_ 4).trans rfl
              have e5 := (blk_cell e_ 5).trans rfl
              have e6 := (blk_cell e_ 6).trans rfl
              have e7 := (blk_cell e_ 7).trans rfl
              have e8 := (blk_cell e_ 8).trans rfl
              have e9 := (blk_cell e_ 9).trans rfl
              have h0 := (blk_cell HI.out.2.1 0).trans rfl
              have h1 := (blk_cell HI.out.2.1 1).trans rfl
              clear e_
              obtain ⟨Akx, Aux, Arx, ckx, cux, crx, hbx, hkx, hux, hrx⟩ := HXx.out
              have x0 := (blk_cell hbx 0).trans rfl
              obtain ⟨Aky, Auy, Ary, cky, cuy, cry, hby, hky, huy, hry⟩ := HXy.out
              have y0 : w8.cell? ⟨gy, 0, none⟩ = some (.string s.text) := by rw [← U1.out]; exact (blk_cell hby 0).trans rfl
              have y8 : w8.cell? ⟨gy, 8, none⟩ = some (.int .i64 0) := by rw [← U2.out]; exact (blk_cell hby 8).trans rfl
              clear hbx hkx hux hrx hby hky huy hry
              have hcell := Kd.foot_string (Kd.C_below K4.out HI.out.2.2) ((s.lines.length : Int) - 1) (by have := HN0.out; omega) (by omega)
              rw [show rdOf ByteArray.empty s.lines ((s.lines.length : Int) - 1) = T by rw [HT_.out]; rfl, show ((s.lines.length : Int) - 1).toNat = s.lines.length - 1 by omega] at hcell
              have hw1 : IntKind.i64.wrap ((s.lines.length : Int) - 1) = ((s.lines.length - 1 : Nat) : Int) := by have := HN0.out; rw [IntKind.wrap_i64]; omega
              have hw2 : s.lines.length - 1 < s.lines.length := by have := HN0.out; omega
              have hn1 : decide (0 < s.lines.length) = true := decide_eq_true HN0.out
              go_wp2_with (fail)
              go_quiet (fail)
              go_wp2_with (fail)
              have HI8 := Aside0.mk (show Below w.heap.size w (w8.drewN nq) from pw_below_drewN HI.out.2.2 nq)
              refine (awake_calls (w8.drewN nq)).mono ?_
              rintro e wz ⟨rfl, hb⟩
              have HZ := Aside0.mk (below_step HI8.out hb)
              clear hb
              go_wp2_with (fail)
              go_ret
              exact ⟨rfl, HZ.out⟩
          · have HN0 := Aside0.mk hn0
            clear hn0
            go_enter Try.func8, Try.ntmps8
            go_wp2_with (fail)
            rw [← HW1.out]
            refine (jobshelllaw46_few.calls 1000 s.text s.pos s.mark Ak ck s.kills Au cu s.undo Ar cr s.redo s.keys s.last s.line s.saved true w1 (Kd.C_below K1.out HI.out.2.2) h1c (Kd.C_below K2.out HI.out.2.2) h2c (Kd.C_below K3.out HI.out.2.2) h3c HF.out).mono ?_
            rintro e w2 ⟨rfl, hb⟩
            have HI' := Aside0.mk (show CBox w2 w.heap.size s (.slice Ak s.kills.length ck) (.slice Au s.undo.length cu) (.slice Ar s.redo.length cr) ∧ w2.heap[w.heap.size + 1]? = some (.cells #[.int .i64 s.off, .slice Al s.lines.length cl] 38 (0, 0)) ∧ Below w.heap.size w w2 from ⟨blk_below HI.out.1 hb, blk_below HI.out.2.1 hb, below_step HI.out.2.2 hb⟩)
            clear HI
            have HI := HI'
            clear HI' hb
            have e_ := HI.out.1
            have e0 := (blk_cell e_ 0).trans rfl
            have e1 := (blk_cell e_ 1).trans rfl
            have e2 := (blk_cell e_ 2).trans rfl
            have e3 := (blk_cell e_ 3).trans rfl
            have e4 := (blk_cell e_ 4).trans rfl
            have e5 := (blk_cell e_ 5).trans rfl
            have e6 := (blk_cell e_ 6).trans rfl
            have e7 := (blk_cell e_ 7).trans rfl
            have e8 := (blk_cell e_ 8).trans rfl
            have e9 := (blk_cell e_ 9).trans rfl
            have h0 := (blk_cell HI.out.2.1 0).trans rfl
            have h1 := (blk_cell HI.out.2.1 1).trans rfl
            clear e_
            go_wp2_with (fail)
            refine (jobshelllaw46_lines.calls 1000 s.off Al cl s.lines true w2 (Kd.C_below K4.out HI.out.2.2) hlc HL.out).mono ?_
            rintro e w3 ⟨rfl, hb⟩
            have HI' := Aside0.mk (show CBox w3 w.heap.size s (.slice Ak s.kills.length ck) (.slice Au s.undo.length cu) (.slice Ar s.redo.length cr) ∧ w3.heap[w.heap.size + 1]? = some (.cells #[.int .i64 s.off, .slice Al s.lines.length cl] 38 (0, 0)) ∧ Below w.heap.size w w3 from ⟨blk_below HI.out.1 hb, blk_below HI.out.2.1 hb, below_step HI.out.2.2 hb⟩)
            clear HI
            have HI := HI'
            clear HI' hb
            clear e0 e1 e2 e3 e4 e5 e6 e7 e8 e9 h0 h1
            have e_ := HI.out.1
            have e0 := (blk_cell e_ 0).trans rfl
            have e1 := (blk_cell e_ 1).trans rfl
            have e2 := (blk_cell e_ 2).trans rfl
            have e3 := (blk_cell e_ 3).trans rfl
            have e4 := (blk_cell e_ 4).trans rfl
            have e5 := (blk_cell e_ 5).trans rfl
            have e6 := (blk_cell e_ 6).trans rfl
            have e7 := (blk_cell e_ 7).trans rfl
            have e8 := (blk_cell e_ 8).trans rfl
            have e9 := (blk_cell e_ 9).trans rfl
            have h0 := (blk_cell HI.out.2.1 0).trans rfl
            have h1 := (blk_cell HI.out.2.1 1).trans rfl
            clear e_
            go_wp2_with (fail)
            refine (jobshellref46_Valid.calls 1000 s.text s.pos s.mark Ak ck s.kills Au cu s.undo Ar cr s.redo s.keys s.last s.line s.saved vi w3 (Kd.C_below K1.out HI.out.2.2) h1c (Kd.C_below K2.out HI.out.2.2) h2c (Kd.C_below K3.out HI.out.2.2) h3c HV.out).mono ?_
            rintro e w4 ⟨rfl, hb⟩
            have HI' := Aside0.mk (show CBox w4 w.heap.size s (.slice Ak s.kills.length ck) (.slice Au s.undo.length cu) (.slice Ar s.redo.length cr) ∧ w4.heap[w.heap.size + 1]? = some (.cells #[.int .i64 s.off, .slice Al s.lines.length cl] 38 (0, 0)) ∧ Below w.heap.size w w4 from ⟨blk_below HI.out.1 hb, blk_below HI.out.2.1 hb, below_step HI.out.2.2 hb⟩)
            clear HI
            have HI := HI'
            clear HI' hb
            clear e0 e1 e2 e3 e4 e5 e6 e7 e8 e9 h0 h1
            have e_ := HI.out.1
            have e0 := (blk_cell e_ 0).trans rfl
            have e1 := (blk_cell e_ 1).trans rfl
            have e2 := (blk_cell e_ 2).trans rfl
            have e3 := (blk_cell e_ 3).trans rfl
            have e4 := (blk_cell e_ 4).trans rfl
            have e5 := (blk_cell e_ 5).trans rfl
            have e6 := (blk_cell e_ 6).trans rfl
            have e7 := (blk_cell e_ 7).trans rfl
            have e8 := (blk_cell e_ 8).trans rfl
            have e9 := (blk_cell e_ 9).trans rfl
            have h0 := (blk_cell HI.out.2.1 0).trans rfl
            have h1 := (blk_cell HI.out.2.1 1).trans rfl
            clear e_
            go_wp2_with (fail)
            have hed : EdC w4 s (.agg #[.string s.text, .int .i64 s.pos, .int .i64 s.mark, .slice Ak s.kills.length ck, .slice Au s.undo.length cu, .slice Ar s.redo.length cr, .string s.keys, .int .i64 s.last, .int .i64 s.line, .string s.saved]) := ⟨Ak, Au, Ar, ck, cu, cr, rfl, Kd.C_below K1.out HI.out.2.2, Kd.C_below K2.out HI.out.2.2, Kd.C_below K3.out HI.out.2.2⟩
            have HED := Aside0.mk hed
            clear hed
            refine (do_calls w4 s 20 ⟨#[]⟩ _ _ HOK.out (by decide) HED.out ⟨Al, cl, rfl, hlc, Kd.C_below K4.out HI.out.2.2⟩).mono ?_
            rw [← HX_.out]
            rintro e w5 ⟨v4, rfl, hv4, hb4⟩
            obtain ⟨Akx, Aux, Arx, ckx, cux, crx, rfl, g2, g3, g4⟩ := hv4.opn
            obtain ⟨w6, hW⟩ : ∃ z, z = w5.alloc (.cells #[.string X.text, .int .i64 X.pos, .int .i64 X.mark, .slice Akx X.kills.length ckx, .slice Aux X.undo.length cux, .slice Arx X.redo.length crx, .string X.keys, .int .i64 X.last, .int .i64 X.line, .string X.saved] 27) := ⟨_, rfl⟩
            have hba : Below w5.heap.size w5 w6 := by rw [hW]; exact below_alloc (Below.refl _ _) _
            have hb : Below w4.heap.size w4 w6 := by rw [hW]; exact below_alloc hb4 _
            have HXx := Aside0.mk (show XBox w6 w5.heap.size X from ⟨Akx, Aux, Arx, ckx, cux, crx, by rw [hW]; exact blk_new _ _, Kd.C_below g2 hba, Kd.C_below g3 hba, Kd.C_below g4 hba⟩)
            have HW := Aside0.mk hW
            clear hv4 g2 g3 g4 hW hba hb4
            have HI' := Aside0.mk (show CBox w6 w.heap.size s (.slice Ak s.kills.length ck) (.slice Au s.undo.length cu) (.slice Ar s.redo.length cr) ∧ w6.heap[w.heap.size + 1]? = some (.cells #[.int .i64 s.off, .slice Al s.lines.length cl] 38 (0, 0)) ∧ Below w.heap.size w w6 from ⟨blk_below HI.out.1 hb, blk_below HI.out.2.1 hb, below_step HI.out.2.2 hb⟩)
            clear HI
            have HI := HI'
            clear HI' hb
            go_upto_region 4 with (fail)
            rw [← HW.out]
            clear HW
            obtain ⟨gx, hgx⟩ : ∃ z, z = w5.heap.size := ⟨_, rfl⟩
            rw [← hgx] at HXx ⊢
            clear hgx
            clear e0 e1 e2 e3 e4 e5 e6 e7 e8 e9 h0 h1
            have e_ := HI.out.1
            have e0 := (blk_cell e_ 0).trans rfl
            have e1 := (blk_cell e_ 1).trans rfl
            have e2 := (blk_cell e_ 2).trans rfl
            have e3 := (blk_cell e_ 3).trans rfl
            have e4 := (blk_cell e_ 4).trans rfl
            have e5 := (blk_cell e_ 5).trans rfl
            have e6 := (blk_cell e_ 6).trans rfl
            have e7 := (blk_cell e_ 7).trans rfl
            have e8 := (blk_cell e_ 8).trans rfl
            have e9 := (blk_cell e_ 9).trans rfl
            have h0 := (blk_cell HI.out.2.1 0).trans rfl
            have h1 := (blk_cell HI.out.2.1 1).trans rfl
            clear e_
            obtain ⟨Akx, Aux, Arx, ckx, cux, crx, hbx, hkx, hux, hrx⟩ := HXx.out
            have x0 := (blk_cell hbx 0).trans rfl
            have x1 := (blk_cell hbx 1).trans rfl
            have x2 := (blk_cell hbx 2).trans rfl
            have x3 := (blk_cell hbx 3).trans rfl
            have x4 := (blk_cell hbx 4).trans rfl
            have x5 := (blk_cell hbx 5).trans rfl
            have x6 := (blk_cell hbx 6).trans rfl
            have x7 := (blk_cell hbx 7).trans rfl
            have x8 := (blk_cell hbx 8).trans rfl
            have x9 := (blk_cell hbx 9).trans rfl
            have hedx : EdC w6 X (.agg #[.string X.text, .int .i64 X.pos, .int .i64 X.mark, .slice Akx X.kills.length ckx, .slice Aux X.undo.length cux, .slice Arx X.redo.length crx, .string X.keys, .int .i64 X.last, .int .i64 X.line, .string X.saved]) := ⟨Akx, Aux, Arx, ckx, cux, crx, rfl, hkx, hux, hrx⟩
            have HEDX := Aside0.mk hedx
            clear hedx hkx hux hrx hbx
            go_wp2_with (fail)
            refine (do_calls w6 X 21 ⟨#[]⟩ _ _ HOKX.out (by decide) HEDX.out (HHI.out w6 (Kd.C_below K4.out HI.out.2.2))).mono ?_
            rw [← HY_.out]
            rintro e w7 ⟨v4, rfl, hv4, hb4⟩
            obtain ⟨Aky, Auy, Ary, cky, cuy, cry, rfl, g2, g3, g4⟩ := hv4.opn
            obtain ⟨w8, hW⟩ : ∃ z, z = w7.alloc (.cells #[.string Y.text, .int .i64 Y.pos, .int .i64 Y.mark, .slice Aky Y.kills.length cky, .slice Auy Y.undo.length cuy, .slice Ary Y.redo.length cry, .string Y.keys, .int .i64 Y.last, .int .i64 Y.line, .string Y.saved] 27) := ⟨_, rfl⟩
            have hba : Below w7.heap.size w7 w8 := by rw [hW]; exact below_alloc (Below.refl _ _) _
            have hb : Below w6.heap.size w6 w8 := by rw [hW]; exact below_alloc hb4 _
            have HXy := Aside0.mk (show XBox w8 w7.heap.size Y from ⟨Aky, Auy, Ary, cky, cuy, cry, by rw [hW]; exact blk_new _ _, Kd.C_below g2 hba, Kd.C_below g3 hba, Kd.C_below g4 hba⟩)
            have HXxn := Aside0.mk (HXx.out.below hb)
            clear HXx
            have HXx := HXxn
            clear HXxn
            have HW := Aside0.mk hW
            clear hv4 g2 g3 g4 hW hba hb4
            have HI' := Aside0.mk (show CBox w8 w.heap.size s (.slice Ak s.kills.length ck) (.slice Au s.undo.length cu) (.slice Ar s.redo.length cr) ∧ w8.heap[w.heap.size + 1]? = some (.cells #[.int .i64 s.off, .slice Al s.lines.length cl] 38 (0, 0)) ∧ Below w.heap.size w w8 from ⟨blk_below HI.out.1 hb, blk_below HI.out.2.1 hb, below_step HI.out.2.2 hb⟩)
            clear HI
            have HI := HI'
            clear HI' hb
            go_upto_region 5 with (fail)
            rw [← HW.out]
            clear HW
            obtain ⟨gy, hgy⟩ : ∃ z, z = w7.heap.size := ⟨_, rfl⟩
            rw [← hgy] at HXy ⊢
            clear hgy
            clear e0 e1 e2 e3 e4 e5 e6 e7 e8 e9 h0 h1 x0 x1 x2 x3 x4 x5 x6 x7 x8 x9
            have e_ := HI.out.1
            have e0 := (blk_cell e_ 0).trans rfl
            have e1 := (blk_cell e_ 1).trans rfl
            have e2 := (blk_cell e_ 2).trans rfl
            have e3 := (blk_cell e_ 3).trans rfl
            have e4 := (blk_cell e_ 4).trans rfl
            have e5 := (blk_cell e_ 5).trans rfl
            have e6 := (blk_cell e_ 6).trans rfl
            have e7 := (blk_cell e_ 7).trans rfl
            have e8 := (blk_cell e_ 8).trans rfl
            have e9 := (blk_cell e_ 9).trans rfl
            have h0 := (blk_cell HI.out.2.1 0).trans rfl
            have h1 := (blk_cell HI.out.2.1 1).trans rfl
            clear e_
            obtain ⟨Akx, Aux, Arx, ckx, cux, crx, hbx, hkx, hux, hrx⟩ := HXx.out
            have x0 := (blk_cell hbx 0).trans rfl
            obtain ⟨Aky, Auy, Ary, cky, cuy, cry, hby, hky, huy, hry⟩ := HXy.out
            have y0 : w8.cell? ⟨gy, 0, none⟩ = some (.string s.text) := by rw [← U1.out]; exact (blk_cell hby 0).trans rfl
            have y8 : w8.cell? ⟨gy, 8, none⟩ = some (.int .i64 0) := by rw [← U2.out]; exact (blk_cell hby 8).trans rfl
            clear hbx hkx hux hrx hby hky huy hry
            have hnb : s.lines.length = 0 := by have := HN0.out; omega
            go_wp2_with (fail)
            go_quiet (fail)
            go_wp2_with (fail)
            have HI8 := Aside0.mk (show Below w.heap.size w (w8.drewN nq) from pw_below_drewN HI.out.2.2 nq)
            refine (awake_calls (w8.drewN nq)).mono ?_
            rintro e wz ⟨rfl, hb⟩
            have HZ := Aside0.mk (below_step HI8.out hb)
            clear hb
            go_wp2_with (fail)
            go_ret
            exact ⟨rfl, HZ.out⟩
        · have hvb : (vi != 0) = false := bne_eq_false_iff_eq.mpr hv0
          have hlb : (s.line != 0) = true := bne_iff_ne.mpr hl0
          clear hv0 hvi hl0
          go_enter Try.func8, Try.ntmps8
          go_wp2_with (fail)
          rw [← HW1.out]
          refine (jobshelllaw46_few.calls 1000 s.text s.pos s.mark Ak ck s.kills Au cu s.undo Ar cr s.redo s.keys s.last s.line s.saved true w1 (Kd.C_below K1.out HI.out.2.2) h1c (Kd.C_below K2.out HI.out.2.2) h2c (Kd.C_below K3.out HI.out.2.2) h3c HF.out).mono ?_
          rintro e w2 ⟨rfl, hb⟩
          have HI' := Aside0.mk (show CBox w2 w.heap.size s (.slice Ak s.kills.length ck) (.slice Au s.undo.length cu) (.slice Ar s.redo.length cr) ∧ w2.heap[w.heap.size + 1]? = some (.cells #[.int .i64 s.off, .slice Al s.lines.length cl] 38 (0, 0)) ∧ Below w.heap.size w w2 from ⟨blk_below HI.out.1 hb, blk_below HI.out.2.1 hb, below_step HI.out.2.2 hb⟩)
          clear HI
          have HI := HI'
          clear HI' hb
          have e_ := HI.out.1
          have e0 := (blk_cell e_ 0).trans rfl
          have e1 := (blk_cell e_ 1).trans rfl
          have e2 := (blk_cell e_ 2).trans rfl
          have e3 := (blk_cell e_ 3).trans rfl
          have e4 := (blk_cell e_ 4).trans rfl
          have e5 := (blk_cell e_ 5).trans rfl
          have e6 := (blk_cell e_ 6).trans rfl
          have e7 := (blk_cell e_ 7).trans rfl
          have e8 := (blk_cell e_ 8).trans rfl
          have e9 := (blk_cell e_ 9).trans rfl
          have h0 := (blk_cell HI.out.2.1 0).trans rfl
          have h1 := (blk_cell HI.out.2.1 1).trans rfl
          clear e_
          go_wp2_with (fail)
          refine (jobshelllaw46_lines.calls 1000 s.off Al cl s.lines true w2 (Kd.C_below K4.out HI.out.2.2) hlc HL.out).mono ?_
          rintro e w3 ⟨rfl, hb⟩
          have HI' := Aside0.mk (show CBox w3 w.heap.size s (.slice Ak s.kills.length ck) (.slice Au s.undo.length cu) (.slice Ar s.redo.length cr) ∧ w3.heap[w.heap.size + 1]? = some (.cells #[.int .i64 s.off, .slice Al s.lines.length cl] 38 (0, 0)) ∧ Below w.heap.size w w3 from ⟨blk_below HI.out.1 hb, blk_below HI.out.2.1 hb, below_step HI.out.2.2 hb⟩)
          clear HI
          have HI := HI'
          clear HI' hb
          clear e0 e1 e2 e3 e4 e5 e6 e7 e8 e9 h0 h1
          have e_ := HI.out.1
          have e0 := (blk_cell e_ 0).trans rfl
          have e1 := (blk_cell e_ 1).trans rfl
          have e2 := (blk_cell e_ 2).trans rfl
          have e3 := (blk_cell e_ 3).trans rfl
          have e4 := (blk_cell e_ 4).trans rfl
          have e5 := (blk_cell e_ 5).trans rfl
          have e6 := (blk_cell e_ 6).trans rfl
          have e7 := (blk_cell e_ 7).trans rfl
          have e8 := (blk_cell e_ 8).trans rfl
          have e9 := (blk_cell e_ 9).trans rfl
          have h0 := (blk_cell HI.out.2.1 0).trans rfl
          have h1 := (blk_cell HI.out.2.1 1).trans rfl
          clear e_
          go_wp2_with (fail)
          refine (jobshellref46_Valid.calls 1000 s.text s.pos s.mark Ak ck s.kills Au cu s.undo Ar cr s.redo s.keys s.last s.line s.saved vi w3 (Kd.C_below K1.out HI.out.2.2) h1c (Kd.C_below K2.out HI.out.2.2) h2c (Kd.C_below K3.out HI.out.2.2) h3c HV.out).mono ?_
          rintro e w4 ⟨rfl, hb⟩
          have HI' := Aside0.mk (show CBox w4 w.heap.size s (.slice Ak s.kills.length ck) (.slice Au s.undo.length cu) (.slice Ar s.redo.length cr) ∧ w4.heap[w.heap.size + 1]? = some (.cells #[.int .i64 s.off, .slice Al s.lines.length cl] 38 (0, 0)) ∧ Below w.heap.size w w4 from ⟨blk_below HI.out.1 hb, blk_below HI.out.2.1 hb, below_step HI.out.2.2 hb⟩)
          clear HI
          have HI := HI'
          clear HI' hb
          clear e0 e1 e2 e3 e4 e5 e6 e7 e8 e9 h0 h1
          have e_ := HI.out.1
          have e0 := (blk_cell e_ 0).trans rfl
          have e1 := (blk_cell e_ 1).trans rfl
          have e2 := (blk_cell e_ 2).trans rfl
          have e3 := (blk_cell e_ 3).trans rfl
          have e4 := (blk_cell e_ 4).trans rfl
          have e5 := (blk_cell e_ 5).trans rfl
          have e6 := (blk_cell e_ 6).trans rfl
          have e7 := (blk_cell e_ 7).trans rfl
          have e8 := (blk_cell e_ 8).trans rfl
          have e9 := (blk_cell e_ 9).trans rfl
          have h0 := (blk_cell HI.out.2.1 0).trans rfl
          have h1 := (blk_cell HI.out.2.1 1).trans rfl
          clear e_
          go_wp2_with (fail)
          refine (awake_calls w4).mono ?_
          rintro e wz ⟨rfl, hb⟩
          have HZ := Aside0.mk (below_step HI.out.2.2 hb)
          clear hb
          go_wp2_with (fail)
          go_ret
          exact ⟨rfl, HZ.out⟩
      · have hvb : (vi != 0) = true := bne_iff_ne.mpr hv0
        clear hv0 hvi
        go_enter Try.func8, Try.ntmps8
        go_wp2_with (fail)
        rw [← HW1.out]
        refine (jobshelllaw46_few.calls 1000 s.text s.pos s.mark Ak ck s.kills Au cu s.undo Ar cr s.redo s.keys s.last s.line s.saved true w1 (Kd.C_below K1.out HI.out.2.2) h1c (Kd.C_below K2.out HI.out.2.2) h2c (Kd.C_below K3.out HI.out.2.2) h3c HF.out).mono ?_
        rintro e w2 ⟨rfl, hb⟩
        have HI' := Aside0.mk (show CBox w2 w.heap.size s (.slice Ak s.kills.length ck) (.slice Au s.undo.length cu) (.slice Ar s.redo.length cr) ∧ w2.heap[w.heap.size + 1]? = some (.cells #[.int .i64 s.off, .slice Al s.lines.length cl] 38 (0, 0)) ∧ Below w.heap.size w w2 from ⟨blk_below HI.out.1 hb, blk_below HI.out.2.1 hb, below_step HI.out.2.2 hb⟩)
        clear HI
        have HI := HI'
        clear HI' hb
        have e_ := HI.out.1
        have e0 := (blk_cell e_ 0).trans rfl
        have e1 := (blk_cell e_ 1).trans rfl
        have e2 := (blk_cell e_ 2).trans rfl
        have e3 := (blk_cell e_ 3).trans rfl
        have e4 := (blk_cell e_ 4).trans rfl
        have e5 := (blk_cell e_ 5).trans rfl
        have e6 := (blk_cell e_ 6).trans rfl
        have e7 := (blk_cell e_ 7).trans rfl
        have e8 := (blk_cell e_ 8).trans rfl
        have e9 := (blk_cell e_ 9).trans rfl
        have h0 := (blk_cell HI.out.2.1 0).trans rfl
        have h1 := (blk_cell HI.out.2.1 1).trans rfl
        clear e_
        go_wp2_with (fail)
        refine (jobshelllaw46_lines.calls 1000 s.off Al cl s.lines true w2 (Kd.C_below K4.out HI.out.2.2) hlc HL.out).mono ?_
        rintro e w3 ⟨rfl, hb⟩
        have HI' := Aside0.mk (show CBox w3 w.heap.size s (.slice Ak s.kills.length ck) (.slice Au s.undo.length cu) (.slice Ar s.redo.length cr) ∧ w3.heap[w.heap.size + 1]? = some (.cells #[.int .i64 s.off, .slice Al s.lines.length cl] 38 (0, 0)) ∧ Below w.heap.size w w3 from ⟨blk_below HI.out.1 hb, blk_below HI.out.2.1 hb, below_step HI.out.2.2 hb⟩)
        clear HI
        have HI := HI'
        clear HI' hb
        clear e0 e1 e2 e3 e4 e5 e6 e7 e8 e9 h0 h1
        have e_ := HI.out.1
        have e0 := (blk_cell e_ 0).trans rfl
        have e1 := (blk_cell e_ 1).trans rfl
        have e2 := (blk_cell e_ 2).trans rfl
        have e3 := (blk_cell e_ 3).trans rfl
        have e4 := (blk_cell e_ 4).trans rfl
        have e5 := (blk_cell e_ 5).trans rfl
        have e6 := (blk_cell e_ 6).trans rfl
        have e7 := (blk_cell e_ 7).trans rfl
        have e8 := (blk_cell e_ 8).trans rfl
        have e9 := (blk_cell e_ 9).trans rfl
        have h0 := (blk_cell HI.out.2.1 0).trans rfl
        have h1 := (blk_cell HI.out.2.1 1).trans rfl
        clear e_
        go_wp2_with (fail)
        refine (jobshellref46_Valid.calls 1000 s.text s.pos s.mark Ak ck s.kills Au cu s.undo Ar cr s.redo s.keys s.last s.line s.saved vi w3 (Kd.C_below K1.out HI.out.2.2) h1c (Kd.C_below K2.out HI.out.2.2) h2c (Kd.C_below K3.out HI.out.2.2) h3c HV.out).mono ?_
        rintro e w4 ⟨rfl, hb⟩
        have HI' := Aside0.mk (show CBox w4 w.heap.size s (.slice Ak s.kills.length ck) (.slice Au s.undo.length cu) (.slice Ar s.redo.length cr) ∧ w4.heap[w.heap.size + 1]? = some (.cells #[.int .i64 s.off, .slice Al s.lines.length cl] 38 (0, 0)) ∧ Below w.heap.size w w4 from ⟨blk_below HI.out.1 hb, blk_below HI.out.2.1 hb, below_step HI.out.2.2 hb⟩)
        clear HI
        have HI := HI'
        clear HI' hb
        clear e0 e1 e2 e3 e4 e5 e6 e7 e8 e9 h0 h1
        have e_ := HI.out.1
        have e0 := (blk_cell e_ 0).trans rfl
        have e1 := (blk_cell e_ 1).trans rfl
        have e2 := (blk_cell e_ 2).trans rfl
        have e3 := (blk_cell e_ 3).trans rfl
        have e4 := (blk_cell e_ 4).trans rfl
        have e5 := (blk_cell e_ 5).trans rfl
        have e6 := (blk_cell e_ 6).trans rfl
        have e7 := (blk_cell e_ 7).trans rfl
        have e8 := (blk_cell e_ 8).trans rfl
        have e9 := (blk_cell e_ 9).trans rfl
        have h0 := (blk_cell HI.out.2.1 0).trans rfl
        have h1 := (blk_cell HI.out.2.1 1).trans rfl
        clear e_
        go_wp2_with (fail)
        refine (awake_calls w4).mono ?_
        rintro e wz ⟨rfl, hb⟩
        have HZ := Aside0.mk (below_step HI.out.2.2 hb)
        clear hb
        go_wp2_with (fail)
        go_ret
        exact ⟨rfl, HZ.out⟩

open Classical in
/-- The law's answer at what a machine can hold. -/
noncomputable def jobshelllaw46_EditorHistory.f (k : Nat) (a0_0 : ByteArray) (a0_1 : Int) (a0_2 : Int) (l0_3 : List ByteArray) (l0_4 : List (S23)) (l0_5 : List (S23)) (a0_6 : ByteArray) (a0_7 : Int) (a0_8 : Int) (a0_9 : ByteArray) (a1_0 : Int) (l1_1 : List ByteArray) : Option (Bool) := if Held ⟨a0_0, a0_1, a0_2, l0_3, l0_4, l0_5, a0_6, a0_7, a0_8, a0_9, a1_0, l1_1⟩ then some true else none
theorem jobshelllaw46_EditorHistory.calls (k : Nat) (a0_0 : ByteArray) (a0_1 : Int) (a0_2 : Int) (A0_3 : Option Addr) (c0_3 : Nat) (l0_3 : List ByteArray) (A0_4 : Option Addr) (c0_4 : Nat) (l0_4 : List (S23)) (A0_5 : Option Addr) (c0_5 : Nat) (l0_5 : List (S23)) (a0_6 : ByteArray) (a0_7 : Int) (a0_8 : Int) (a0_9 : ByteArray) (a1_0 : Int) (A1_1 : Option Addr) (c1_1 : Nat) (l1_1 : List ByteArray) (r : Bool) (w : World) (hr0_3 : Kd.C Kd.string w A0_3 l0_3.length l0_3) (hc0_3 : l0_3.length ≤ c0_3) (hr0_4 : Kd.C k23 w A0_4 l0_4.length l0_4) (hc0_4 : l0_4.length ≤ c0_4) (hr0_5 : Kd.C k23 w A0_5 l0_5.length l0_5) (hc0_5 : l0_5.length ≤ c0_5) (hr1_1 : Kd.C Kd.string w A1_1 l1_1.length l1_1) (hc1_1 : l1_1.length ≤ c1_1) (h : jobshelllaw46_EditorHistory.f k a0_0 a0_1 a0_2 l0_3 l0_4 l0_5 a0_6 a0_7 a0_8 a0_9 a1_0 l1_1 = some r) :
    Calls Try.prog 8 #[.agg #[.string a0_0, .int .i64 a0_1, .int .i64 a0_2, .slice A0_3 l0_3.length c0_3, .slice A0_4 l0_4.length c0_4, .slice A0_5 l0_5.length c0_5, .string a0_6, .int .i64 a0_7, .int .i64 a0_8, .string a0_9], .agg #[.int .i64 a1_0, .slice A1_1 l1_1.length c1_1]] w fun e w' => e = .returned (.bool r) ∧ Below w.heap.size w w' := by
  unfold jobshelllaw46_EditorHistory.f at h
  split at h
  · rename_i hs
    injection h with h
    subst h
    exact hist_walk w ⟨a0_0, a0_1, a0_2, l0_3, l0_4, l0_5, a0_6, a0_7, a0_8, a0_9, a1_0, l1_1⟩ A0_3 A0_4 A0_5 A1_1 c0_3 c0_4 c0_5 c1_1 hs hr0_3 hc0_3 hr0_4 hc0_4 hr0_5 hc0_5 hr1_1 hc1_1
  · cases h
end Go.Proofs.Ytlbbjdggebgabaa.P
