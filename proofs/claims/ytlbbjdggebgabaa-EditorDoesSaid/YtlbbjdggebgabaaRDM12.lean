/- Texts of this claim, joined: R18, V2. -/
import Derived.Test.YtlbbjdggebgabaaRDM11
import Derived.Test.YtlbbjdggebgabaaRDM6
import Derived.Test.YtlbbjdggebgabaaRDM7
import Derived.Deep.QuietTactic
import Derived.BigQuiet
section
/- What the laws of the reference's actions need: an editor is the same as itself; a good one is fit for the reference. -/
namespace Go.Proofs.Ytlbbjdggebgabaa.P
open Go.RowKit Go.Proofs.YtlbbjdggebgabaaW.PrintWords Go.Proofs.YtlbbjdggebgabaaW.PrintLast Go.Proofs.YtlbbjdggebgabaaW.PrintMore
set_option linter.unusedVariables false
set_option linter.unusedSimpArgs false

theorem snaps_self (l : List S23) (hl : l.length ≤ 1000000) : ∀ n i k, l.length ≤ i + n → n < k → jobshellref46_sameSnaps.l0 k l l (i : Int) = some true
  | 0, i, k + 1, h, hk => by
    rw [jobshellref46_sameSnaps.l0, if_neg (by omega)]
  | n + 1, i, k + 1, h, hk => by
    rw [jobshellref46_sameSnaps.l0]
    by_cases hi : (i : Int) < (l.length : Int)
    · rw [if_pos hi, if_pos (by omega), if_pos hi, if_neg (by simp), wrap_at (by omega) (by omega)]
      have := snaps_self l hl n (i + 1) k (by omega) (by omega)
      push_cast at this
      exact this
    · rw [if_neg hi]
theorem snaps_f (l : List S23) (k : Nat) (hl : l.length ≤ 1000000) (hk : l.length < k) : jobshellref46_sameSnaps.f k l l = some true := by
  unfold jobshellref46_sameSnaps.f
  rw [if_pos rfl]
  exact snaps_self l hl l.length 0 k (by omega) hk
theorem Good.ref {s : St} (h : Good s) (hl : s.lines.length ≤ 200) : RefOk s := ⟨h.ok hl, h.mark1, h.text, h.kills, h.saved⟩
theorem moveS_lines (s : St) (a : Int) : (moveS s a).lines = s.lines := (moveS_keep s a).2.2.2
theorem EdV_of {w : World} {s : St} {Ak Au Ar : Option Addr} {ck cu cr : Nat} (h1 : Kd.C Kd.string w Ak s.kills.length s.kills) (h1c : s.kills.length ≤ ck) (h2 : Kd.C k23 w Au s.undo.length s.undo) (h2c : s.undo.length ≤ cu) (h3 : Kd.C k23 w Ar s.redo.length s.redo) (h3c : s.redo.length ≤ cr) :
    EdV w (fun k => k < w.heap.size) s (.agg #[.string s.text, .int .i64 s.pos, .int .i64 s.mark, .slice Ak s.kills.length ck, .slice Au s.undo.length cu, .slice Ar s.redo.length cr, .string s.keys, .int .i64 s.last, .int .i64 s.line, .string s.saved]) :=
  ⟨Ak, Au, Ar, ck, cu, cr, rfl, Kd.V_mk h1c (Kd.C_F Kd.heap_scalar h1), Kd.V_mk h2c (Kd.C_F k23_heap h2), Kd.V_mk h3c (Kd.C_F k23_heap h3)⟩
/-- An editor's value: its lists and their room. -/
def EdK (W : World) (s : St) (v : Value) : Prop := ∃ (Ak Au Ar : Option Addr) (ck cu cr : Nat), v = .agg #[.string s.text, .int .i64 s.pos, .int .i64 s.mark, .slice Ak s.kills.length ck, .slice Au s.undo.length cu, .slice Ar s.redo.length cr, .string s.keys, .int .i64 s.last, .int .i64 s.line, .string s.saved] ∧
    Kd.C Kd.string W Ak s.kills.length s.kills ∧ s.kills.length ≤ ck ∧ Kd.C k23 W Au s.undo.length s.undo ∧ s.undo.length ≤ cu ∧ Kd.C k23 W Ar s.redo.length s.redo ∧ s.redo.length ≤ cr
theorem EdV.edK {W : World} {P : Nat → Prop} {s : St} {v : Value} (h : EdV W P s v) : EdK W s v := by
  obtain ⟨Ak, Au, Ar, ck, cu, cr, rfl, h1, h2, h3⟩ := h
  exact ⟨Ak, Au, Ar, ck, cu, cr, rfl, (Kd.V_reads' h1).2.2, (Kd.V_reads' h1).2.1, (Kd.V_reads' h2).2.2, (Kd.V_reads' h2).2.1, (Kd.V_reads' h3).2.2, (Kd.V_reads' h3).2.1⟩
theorem EdR.edK {W : World} {b : Nat} {s : St} {v : Value} (h : EdR W b s v) : EdK W s v := by
  obtain ⟨Ak, Au, Ar, ck, cu, cr, rfl, h1, h2, h3⟩ := h
  exact ⟨Ak, Au, Ar, ck, cu, cr, rfl, (Kd.R_reads' h1).2.2, (Kd.R_reads' h1).2.1, (Kd.R_reads' h2).2.2, (Kd.R_reads' h2).2.1, (Kd.R_reads' h3).2.2, (Kd.R_reads' h3).2.1⟩
theorem EdK.ed {W : World} {s : St} {v : Value} (h : EdK W s v) : EdC W s v := by
  obtain ⟨Ak, Au, Ar, ck, cu, cr, rfl, h1, h2, h3, h4, h5, h6⟩ := h
  exact ⟨Ak, Au, Ar, ck, cu, cr, rfl, h1, h3, h5⟩
theorem EdK.below {W W1 : World} {s : St} {v : Value} (h : EdK W s v) (hb : Below W.heap.size W W1) : EdK W1 s v := by
  obtain ⟨Ak, Au, Ar, ck, cu, cr, rfl, h1, h2, h3, h4, h5, h6⟩ := h
  exact ⟨Ak, Au, Ar, ck, cu, cr, rfl, Kd.C_below h1 hb, h2, Kd.C_below h3 hb, h4, Kd.C_below h5 hb, h6⟩
theorem EdK.V {W : World} {s : St} {v : Value} (h : EdK W s v) : EdV W (fun k => k < W.heap.size) s v := by
  obtain ⟨Ak, Au, Ar, ck, cu, cr, rfl, h1, h2, h3, h4, h5, h6⟩ := h
  exact EdV_of h1 h2 h3 h4 h5 h6
theorem do_callsK (w : World) (s : St) (a : Int) (x : ByteArray) (v h : Value) (ok : OkS s) (hx : x.size ≤ 1000000) (hv : EdK w s v) (hh : HiC w s.off s.lines h) :
    Calls Try.prog 16 #[v, .int .i64 a, .string x, h] w fun e w' => ∃ v', e = .returned v' ∧ EdK w' (doS s a x) v' ∧ Below w.heap.size w w' := by
  unfold doS
  by_cases ha : a < 0 ∨ 28 < a
  · rw [if_pos ha]
    refine (do_none w s a x v h s.lines s.off hv.ed hh ha).mono ?_
    rintro e w' ⟨rfl, hb⟩
    exact ⟨v, rfl, hv.below hb, hb⟩
  · rw [if_neg ha]
    refine (do_some w s a x v h ok hx hv.ed hh ha).mono ?_
    rintro e w' ⟨v', rfl, hv', hb⟩
    exact ⟨v', rfl, hv'.edK, hb⟩
end Go.Proofs.Ytlbbjdggebgabaa.P
end

section
/- Sameness of editors: a short contract. -/
namespace Go.Proofs.Ytlbbjdggebgabaa.P
open Go.RowKit Go.Proofs.YtlbbjdggebgabaaW.PrintWords Go.Proofs.YtlbbjdggebgabaaW.PrintLast Go.Proofs.YtlbbjdggebgabaaW.PrintMore
set_option linter.unusedVariables false
set_option linter.unusedSimpArgs false

set_option maxHeartbeats 16000000 in
set_option maxRecDepth 100000 in
theorem rsame_calls (w : World) (s : St) (Ak Au Ar Ak2 Au2 Ar2 : Option Addr) (ck cu cr ck2 cu2 cr2 : Nat) (h1 : Kd.C Kd.string w Ak s.kills.length s.kills) (h1c : s.kills.length ≤ ck) (h2 : Kd.C k23 w Au s.undo.length s.undo) (h2c : s.undo.length ≤ cu) (h3 : Kd.C k23 w Ar s.redo.length s.redo) (h3c : s.redo.length ≤ cr) (i1 : Kd.C Kd.string w Ak2 s.kills.length s.kills) (i1c : s.kills.length ≤ ck2) (i2 : Kd.C k23 w Au2 s.undo.length s.undo) (i2c : s.undo.length ≤ cu2) (i3 : Kd.C k23 w Ar2 s.redo.length s.redo) (i3c : s.redo.length ≤ cr2) (n1 : s.kills.length ≤ 1000) (n2 : s.undo.length ≤ 1000) (n3 : s.redo.length ≤ 1000) :
    Calls Try.prog 13 #[.agg #[.string s.text, .int .i64 s.pos, .int .i64 s.mark, .slice Ak s.kills.length ck, .slice Au s.undo.length cu, .slice Ar s.redo.length cr, .string s.keys, .int .i64 s.last, .int .i64 s.line, .string s.saved], .agg #[.string s.text, .int .i64 s.pos, .int .i64 s.mark, .slice Ak2 s.kills.length ck2, .slice Au2 s.undo.length cu2, .slice Ar2 s.redo.length cr2, .string s.keys, .int .i64 s.last, .int .i64 s.line, .string s.saved]] w fun e w' => e = .returned (.bool true) ∧ Below w.heap.size w w' := by
  have hu27 := Try.underlying27
  have hu23 := Try.underlying23
  obtain ⟨w1, hw1⟩ : ∃ z, z = (w.alloc (.cells #[.string s.text, .int .i64 s.pos, .int .i64 s.mark, .slice Ak s.kills.length ck, .slice Au s.undo.length cu, .slice Ar s.redo.length cr, .string s.keys, .int .i64 s.last, .int .i64 s.line, .string s.saved] 27)).alloc (.cells #[.string s.text, .int .i64 s.pos, .int .i64 s.mark, .slice Ak2 s.kills.length ck2, .slice Au2 s.undo.length cu2, .slice Ar2 s.redo.length cr2, .string s.keys, .int .i64 s.last, .int .i64 s.line, .string s.saved] 27) := ⟨_, rfl⟩
  obtain ⟨b1, b2, b3, b4⟩ := box2 w #[.string s.text, .int .i64 s.pos, .int .i64 s.mark, .slice Ak s.kills.length ck, .slice Au s.undo.length cu, .slice Ar s.redo.length cr, .string s.keys, .int .i64 s.last, .int .i64 s.line, .string s.saved] #[.string s.text, .int .i64 s.pos, .int .i64 s.mark, .slice Ak2 s.kills.length ck2, .slice Au2 s.undo.length cu2, .slice Ar2 s.redo.length cr2, .string s.keys, .int .i64 s.last, .int .i64 s.line, .string s.saved] 27 27
  rw [← hw1] at b1 b2 b3 b4
  have HE := Aside0.mk b1
  have HF := Aside0.mk b2
  have HB := Aside0.mk b3
  have J1 := Aside0.mk (Kd.C_below h1 b3)
  have J2 := Aside0.mk (Kd.C_below h2 b3)
  have J3 := Aside0.mk (Kd.C_below h3 b3)
  have I1 := Aside0.mk (Kd.C_below i1 b3)
  have I2 := Aside0.mk (Kd.C_below i2 b3)
  have I3 := Aside0.mk (Kd.C_below i3 b3)
  have HW1 := Aside0.mk hw1
  have N2 := Aside0.mk (snaps_f s.undo 2000 (by omega) (by omega))
  have N3 := Aside0.mk (snaps_f s.redo 2000 (by omega) (by omega))
  clear b1 b2 b3 b4 h1 h2 h3 i1 i2 i3 hw1
  go_enter Try.func13, Try.ntmps13
  go_upto_region 1 with (fail)
  rw [← HW1.out]
  obtain ⟨d0, d1, d2, d3, d4, d5, d6, d7, d8, d9⟩ := cells10 HE.out
  obtain ⟨e0, e1, e2, e3, e4, e5, e6, e7, e8, e9⟩ := cells10 HF.out
  go_wp2
  go_loopw [5] (fun v wr => ∃ i : Nat, i ≤ s.kills.length ∧ v = .int .i64 (i : Int) ∧ ∃ m, wr = w1.drewN m) (fun v _ => s.kills.length - (intOf v).toNat)
  case atStart => exact ⟨0, Nat.zero_le _, rfl, 0, rfl⟩
  case round =>
    obtain ⟨i, hi0, rfl, m, rfl⟩ := hrel
    by_cases hi : i < s.kills.length
    · have z1 : (i : Int) < (s.kills.length : Int) := by omega
      rcases Ak with _ | ad
      · exact absurd J1.out (by intro hC; obtain ⟨ad, _, ha, _⟩ := Kd.C_get hC ByteArray.empty 0 (by omega) (by omega); cases ha)
      rcases Ak2 with _ | ad2
      · exact absurd I1.out (by intro hC; obtain ⟨ad, _, ha, _⟩ := Kd.C_get hC ByteArray.empty 0 (by omega) (by omega); cases ha)
      have hcell := Kd.foot_string J1.out (i : Int) (by omega) (by omega)
      have hcell2 := Kd.foot_string I1.out (i : Int) (by omega) (by omega)
      obtain ⟨y, hy⟩ : ∃ z, z = rdOf ByteArray.empty s.kills (i : Int) := ⟨_, rfl⟩
      rw [← hy] at hcell hcell2
      have x0 : (i : Int).toNat = i := by omega
      rw [x0] at hcell hcell2
      clear hy x0
      go_wp2
      go_quiet (fail)
      go_wp2
      go_roundw
      case rel => exact ⟨i + 1, by omega, by go_num, _, rfl⟩
      case measure => simp [intOf]; omega
    · have z1 : ¬ (i : Int) < (s.kills.length : Int) := by omega
      have hbm : Below w1.heap.size w1 (w1.drewN m) := pw_below_drewN (Below.refl _ _) m
      go_wp2_with (first | (go_at_call 26; ((with_reducible refine (jobshellref46_sameSnaps.calls 2000 Au cu s.undo Au2 cu2 s.undo true (w1.drewN m) (Kd.C_below J2.out hbm) h2c (Kd.C_below I2.out hbm) i2c N2.out).mono ?_)); rintro e w2 ⟨rfl, hb⟩; have hb2 := below_step hbm (drawn_below hb); clear d0 d1 d2 d3 d4 d5 d6 d7 d8 d9 e0 e1 e2 e3 e4 e5 e6 e7 e8 e9; obtain ⟨d0, d1, d2, d3, d4, d5, d6, d7, d8, d9⟩ := cells10 (blk_below HE.out hb2); obtain ⟨e0, e1, e2, e3, e4, e5, e6, e7, e8, e9⟩ := cells10 (blk_below HF.out hb2); have HB2 := Aside0.mk hb2; clear hb hb2) | (go_at_call 26; ((with_reducible refine (jobshellref46_sameSnaps.calls 2000 Ar cr s.redo Ar2 cr2 s.redo true w2 (Kd.C_below J3.out HB2.out) h3c (Kd.C_below I3.out HB2.out) i3c N3.out).mono ?_)); rintro e w3 ⟨rfl, hb⟩; have hb3 := below_step HB2.out (drawn_below hb); clear d0 d1 d2 d3 d4 d5 d6 d7 d8 d9 e0 e1 e2 e3 e4 e5 e6 e7 e8 e9; obtain ⟨d0, d1, d2, d3, d4, d5, d6, d7, d8, d9⟩ := cells10 (blk_below HE.out hb3); obtain ⟨e0, e1, e2, e3, e4, e5, e6, e7, e8, e9⟩ := cells10 (blk_below HF.out hb3); have HB3 := Aside0.mk hb3; clear hb hb3))
      go_ret
      exact ⟨rfl, below_step HB.out HB3.out⟩
end Go.Proofs.Ytlbbjdggebgabaa.P
end
