/- Texts of this claim, joined: G1, G3. -/
import Derived.Test.YtlbbjdggebgabaaRUM6
import Derived.Test.YtlbbjdggebgabaaRUM7
import Derived.Test.YtlbbjdggebgabaaRUM3
import Derived.Deep.RegionHeld3
section
/- The law's own examples: awake. -/
namespace Go.Proofs.Ytlbbjdggebgabaa.P
open Go.RowKit Go.Proofs.YtlbbjdggebgabaaW.PrintWords Go.Proofs.YtlbbjdggebgabaaW.PrintLast Go.Proofs.YtlbbjdggebgabaaW.PrintMore
set_option linter.unusedVariables false
set_option linter.unusedSimpArgs false

def aw0 : St := ⟨⟨#[]⟩, 0, 0, [], [], [], ⟨#[]⟩, 0, 0, ⟨#[]⟩, 0, [⟨#[120]⟩, ⟨#[121]⟩]⟩
def aw1 : St := { aw0 with text := ⟨#[97, 98]⟩, pos := 2, undo := [⟨⟨#[]⟩, 0⟩], last := 1 }
def aw2 : St := { aw1 with text := ⟨#[97, 98, 99]⟩, pos := 3 }
def awu : St := { aw2 with text := ⟨#[]⟩, pos := 0, undo := [], redo := [⟨⟨#[97, 98, 99]⟩, 3⟩], last := 17 }
def awr : St := { aw2 with last := 18 }
def awk : St := { aw2 with text := ⟨#[]⟩, pos := 0, kills := [⟨#[97, 98, 99]⟩], undo := [⟨⟨#[]⟩, 0⟩, ⟨⟨#[97, 98, 99]⟩, 3⟩], last := 12 }
def awup : St := { aw2 with text := ⟨#[121]⟩, pos := 1, undo := [], saved := ⟨#[97, 98, 99]⟩, line := 1, last := 20 }
def awdn : St := { aw2 with undo := [], last := 21 }
theorem aw_1 : doS aw0 1 ⟨#[97, 98]⟩ = aw1 := by kernel_rfl
theorem aw_2 : doS aw1 1 ⟨#[99]⟩ = aw2 := by kernel_rfl
theorem aw_u : doS aw2 17 ⟨#[]⟩ = awu := by kernel_rfl
theorem aw_r : doS awu 18 ⟨#[]⟩ = awr := by kernel_rfl
theorem aw_f : keymap_Find.f 9 [⟨⟨#[113]⟩, 12⟩] (keysOf aw2 113) = some (12, 0) := by kernel_rfl
theorem aw_k : keyS aw2 113 12 0 = (awk, 0) := by kernel_rfl
theorem aw_up : doS aw2 20 ⟨#[]⟩ = awup := by kernel_rfl
theorem aw_dn : doS awup 21 ⟨#[]⟩ = awdn := by kernel_rfl
theorem aw_v0 : editor_Valid.f 99 aw2.text aw2.pos aw2.mark aw2.kills aw2.undo aw2.redo aw2.keys aw2.last aw2.line aw2.saved = some 0 := by kernel_rfl
theorem aw_v1 : editor_Valid.f 99 ⟨#[]⟩ 0 1 [] [] [] ⟨#[]⟩ 0 0 ⟨#[]⟩ = some 2 := by kernel_rfl

/-- An editor in a box. -/
def EBox (W : World) (base g : Nat) (s : St) : Prop := ∃ (Ak Au Ar : Option Addr) (ck cu cr : Nat), W.heap[g]? = some (.cells #[.string s.text, .int .i64 s.pos, .int .i64 s.mark, .slice Ak s.kills.length ck, .slice Au s.undo.length cu, .slice Ar s.redo.length cr, .string s.keys, .int .i64 s.last, .int .i64 s.line, .string s.saved] 27 (0, 0)) ∧
  Kd.R Kd.string 9 W base (fun _ => True) (.slice Ak s.kills.length ck) s.kills ∧ Kd.R k23 23 W base (fun _ => True) (.slice Au s.undo.length cu) s.undo ∧ Kd.R k23 23 W base (fun _ => True) (.slice Ar s.redo.length cr) s.redo
theorem EBox.below {W W1 : World} {base g : Nat} {s : St} (h : EBox W base g s) (hb : Below W.heap.size W W1) : EBox W1 base g s := by
  obtain ⟨Ak, Au, Ar, ck, cu, cr, h0, h1, h2, h3⟩ := h
  exact ⟨Ak, Au, Ar, ck, cu, cr, blk_below h0 hb, Kd.R_below h1 hb, Kd.R_below h2 hb, Kd.R_below h3 hb⟩
/-- The history's box. -/
def HBox (W : World) (w : World) : Prop := W.heap[w.heap.size]? = some (.cells #[.int .i64 0, .slice (some ⟨w.heap.size + 1, 0, none⟩) 2 2] 38 (0, 0)) ∧ Kd.C Kd.string W (some ⟨w.heap.size + 1, 0, none⟩) 2 [⟨#[120]⟩, ⟨#[121]⟩] ∧ Below w.heap.size w W
theorem HBox.below {W W1 w : World} (h : HBox W w) (hb : Below W.heap.size W W1) : HBox W1 w := ⟨blk_below h.1 hb, Kd.C_below h.2.1 hb, below_step h.2.2 hb⟩
theorem HBox.c0 {W w : World} (h : HBox W w) : W.cell? ⟨w.heap.size, 0, none⟩ = some (.int .i64 0) := (blk_cell h.1 0).trans rfl
theorem HBox.c1 {W w : World} (h : HBox W w) : W.cell? ⟨w.heap.size, 1, none⟩ = some (.slice (some ⟨w.heap.size + 1, 0, none⟩) 2 2) := (blk_cell h.1 1).trans rfl
theorem HBox.hi {W w : World} (h : HBox W w) : HiC W 0 [⟨#[120]⟩, ⟨#[121]⟩] (.agg #[.int .i64 0, .slice (some ⟨w.heap.size + 1, 0, none⟩) 2 2]) := ⟨_, 2, rfl, Nat.le_refl _, h.2.1⟩
theorem HBox.made (w : World) : HBox ((w.alloc (.cells #[.int .i64 0, .slice (some ⟨w.heap.size + 1, 0, none⟩) 2 2] 38)).alloc (.cells #[.string ⟨#[120]⟩, .string ⟨#[121]⟩] 9)) w := by
  refine ⟨blk_alloc (blk_new w _) _, ?_, below_alloc (below_alloc (Below.refl _ _) _) _⟩
  have h : Kd.R Kd.string 9 ((w.alloc (.cells #[.int .i64 0, .slice (some ⟨w.heap.size + 1, 0, none⟩) 2 2] 38)).alloc (.cells #[.string ⟨#[120]⟩, .string ⟨#[121]⟩] 9)) w.heap.size (fun _ => True) (.slice (some ⟨(w.alloc (.cells #[.int .i64 0, .slice (some ⟨w.heap.size + 1, 0, none⟩) 2 2] 38)).heap.size, 0, none⟩) 2 2) [⟨#[120]⟩, ⟨#[121]⟩] :=
    Kd.R_of_own (enc := Value.string) (h1 := fun _ => rfl) (by simpa [encs] using World.ownsRow_lit (base := w.heap.size) (e := 9) (size := 1) (w.alloc (.cells #[.int .i64 0, .slice (some ⟨w.heap.size + 1, 0, none⟩) 2 2] 38)) #[.string ⟨#[120]⟩, .string ⟨#[121]⟩] 2 (by simp) (by decide) rfl) (fun _ _ => trivial)
  have h2 := C_of_R h
  simpa using h2
theorem lit_bind (w : World) (x : S46) {base : Nat} (hb : base ≤ w.heap.size) : Kd.R k46 46 (w.alloc (.cells #[.string x.f0, .int .i64 x.f1] 46)) base (fun _ => True) (.slice (some ⟨w.heap.size, 0, none⟩) 1 1) [x] :=
  ⟨fun _ _ => trivial, [.string x.f0, .int .i64 x.f1], World.ownsRow_lit (base := base) (e := 46) (size := 2) w #[.string x.f0, .int .i64 x.f1] 1 hb (by decide) rfl, Reps.c2 (k46_mkM _ _ _ x) (Reps.none _ _)⟩
theorem ok_aw0 : OkS aw0 := by constructor <;> decide
theorem ok_aw1 : OkS aw1 := by constructor <;> decide
theorem ok_aw2 : OkS aw2 := by constructor <;> decide
theorem ok_awu : OkS awu := by constructor <;> decide
theorem ok_awup : OkS awup := by constructor <;> decide
theorem EdR.opn {W : World} {base : Nat} {s : St} {v : Value} (h : EdR W base s v) : ∃ (Ak Au Ar : Option Addr) (ck cu cr : Nat), v = .agg #[.string s.text, .int .i64 s.pos, .int .i64 s.mark, .slice Ak s.kills.length ck, .slice Au s.undo.length cu, .slice Ar s.redo.length cr, .string s.keys, .int .i64 s.last, .int .i64 s.line, .string s.saved] ∧
    Kd.R Kd.string 9 W base (fun _ => True) (.slice Ak s.kills.length ck) s.kills ∧ Kd.R k23 23 W base (fun _ => True) (.slice Au s.undo.length cu) s.undo ∧ Kd.R k23 23 W base (fun _ => True) (.slice Ar s.redo.length cr) s.redo := h
theorem hz_new {w W : World} {cs : Array Value} {t : TypeId} (hb : Below (w.alloc (.cells cs t)).heap.size (w.alloc (.cells cs t)) W) : W.heap[w.heap.size]? = some (.cells cs t (0, 0)) := blk_below (blk_new w _) hb
theorem hz_newd {w W : World} {cs : Array Value} {t : TypeId} (hb : Below (w.alloc (.cells cs t)).drew.heap.size (w.alloc (.cells cs t)).drew W) : W.heap[w.heap.size]? = some (.cells cs t (0, 0)) := blk_below (w := (w.alloc (.cells cs t)).drew) (blk_new w _) hb
theorem awS {w w1 W : World} (h : HBox w1 w) (hb : Below w1.heap.size w1 W) : W.cell? ⟨w.heap.size, 0, none⟩ = some (.int .i64 0) ∧ W.cell? ⟨w.heap.size, 1, none⟩ = some (.slice (some ⟨w.heap.size + 1, 0, none⟩) 2 2) ∧ Aside0 (Below w1.heap.size w1 W) := ⟨(h.below hb).c0, (h.below hb).c1, ⟨hb⟩⟩

set_option maxHeartbeats 16000000 in
set_option maxRecDepth 100000 in
theorem awake_calls (w : World) :
    Calls Try.prog 10 #[] w fun e w' => e = .returned (.bool true) ∧ Below w.heap.size w w' := by
  have hu27 := Try.underlying27
  have hu38 := Try.underlying38
  have hu23 := Try.underlying23
  obtain ⟨w1, hw1⟩ : ∃ z, z = (w.alloc (.cells #[.int .i64 0, .slice (some ⟨w.heap.size + 1, 0, none⟩) 2 2] 38)).alloc (.cells #[.string ⟨#[120]⟩, .string ⟨#[121]⟩] 9) := ⟨_, rfl⟩
  have HH := Aside0.mk (show HBox w1 w from by rw [hw1]; exact HBox.made w)
  have HW1 := Aside0.mk hw1
  clear hw1
  go_enter Try.func10, Try.ntmps10
  go_upto_region 3 with (fail)
  rw [← HW1.out]
  go_cut [2] from 11 (fun v2 wc => ∃ g, v2 = .pointer (some ⟨g, 0, none⟩) ∧ Aside0 (HBox wc w ∧ EBox wc w.heap.size g aw2))
  case first =>
    go_region_held3 (fun w' => w'.cell? ⟨w.heap.size, 0, none⟩ = some (.int .i64 0) ∧ w'.cell? ⟨w.heap.size, 1, none⟩ = some (.slice (some ⟨w.heap.size + 1, 0, none⟩) 2 2) ∧ Aside0 (Below w1.heap.size w1 w'))
      (first | (refine awS HH.out ?_; first | with_reducible exact below_set (below_set (below_set (below_set (below_set (below_set (below_set (below_set (below_set (below_set HBx.out HGZ.out) HGZ.out) HGZ.out) HGZ.out) HGZ.out) HGZ.out) HGZ.out) HGZ.out) HGZ.out) HGZ.out | exact below_alloc HBx.out _ | exact HBx.out | exact below_alloc (below_drew (Below.refl _ _)) _ | exact below_drew (Below.refl _ _)))
      (first | (go_at_call 14; refine (editor_New.calls _ _ _ _ _ _ _ _ _ _ _ rfl).mono ?_; rintro e w4 ⟨v3, v4, v5, rfl, q3, q4, q5, hb⟩; (try (have hz := blk_below hz hb)); (try (have hz := hz_newd hb; have HGZ := Aside0.mk (Nat.le_refl w1.heap.size))); have HBx : Aside0 (Below w1.heap.size w1 _) := ⟨by refine below_step ?_ hb; first | exact below_alloc HBx.out _ | exact HBx.out | exact below_alloc (below_drew (Below.refl _ _)) _ | exact below_drew (Below.refl _ _)⟩; obtain ⟨A3, c3, rfl⟩ := Kd.R_slice q3; obtain ⟨A4, c4, rfl⟩ := Kd.R_slice q4; obtain ⟨A5, c5, rfl⟩ := Kd.R_slice q5; have HVN := Aside0.mk (show EdR w4 w.heap.size aw0 (.agg #[.string ⟨#[]⟩, .int .i64 0, .int .i64 0, .slice A3 0 c3, .slice A4 0 c4, .slice A5 0 c5, .string ⟨#[]⟩, .int .i64 0, .int .i64 0, .string ⟨#[]⟩]) from ⟨A3, A4, A5, c3, c4, c5, rfl, Kd.R_mono (Kd.R_lower q3 (by refine Nat.le_trans HH.out.2.2.size ?_; first | exact (below_alloc (below_drew (Below.refl w1.heap.size w1)) _).size | exact (below_drew (Below.refl w1.heap.size w1)).size)) (fun _ _ => trivial), Kd.R_mono (Kd.R_lower q4 (by refine Nat.le_trans HH.out.2.2.size ?_; first | exact (below_alloc (below_drew (Below.refl w1.heap.size w1)) _).size | exact (below_drew (Below.refl w1.heap.size w1)).size)) (fun _ _ => trivial), Kd.R_mono (Kd.R_lower q5 (by refine Nat.le_trans HH.out.2.2.size ?_; first | exact (below_alloc (below_drew (Below.refl w1.heap.size w1)) _).size | exact (below_drew (Below.refl w1.heap.size w1)).size)) (fun _ _ => trivial)⟩); clear q3 q4 q5 hb) | (have hva_ := HVA.out; clear hva_; go_at_call 16; refine (do_callsR _ w.heap.size aw1 1 ⟨#[99]⟩ _ _ ok_aw1 (by decide) ?hv ?hs ?hh).mono ?_; (case hv => (refine HVA.out.below ?_; first | exact below_alloc (Below.refl _ _) _ | exact Below.refl _ _)); (case hs => (refine Nat.le_trans HH.out.2.2.size ?_; first | exact (below_alloc HBx.out _).size | exact HBx.out.size)); (case hh => (refine (HH.out.below ?_).hi; first | exact below_alloc HBx.out _ | exact HBx.out)); rw [aw_2]; rintro e w4 ⟨v4, rfl, hv4, hb⟩; (try (have hz := blk_below hz hb)); (try (have hz := hz_new hb; first | have HGZ := Aside0.mk HBx.out.size | have HGZ := Aside0.mk (below_drew (Below.refl w1.heap.size w1)).size)); have HBx : Aside0 (Below w1.heap.size w1 _) := ⟨by refine below_step ?_ hb; first | exact below_alloc HBx.out _ | exact HBx.out | exact below_alloc (below_drew (Below.refl _ _)) _ | exact below_drew (Below.refl _ _)⟩; obtain ⟨Ak, Au, Ar, ck, cu, cr, rfl, g2, g3, g4⟩ := hv4.opn; (try (have qz := blk_frozen hz; have r0 := (blk_cell hz 0).trans rfl; have r1 := (blk_cell hz 1).trans rfl; have r2 := (blk_cell hz 2).trans rfl; have r3 := (blk_cell hz 3).trans rfl; have r4 := (blk_cell hz 4).trans rfl; have r5 := (blk_cell hz 5).trans rfl; have r6 := (blk_cell hz 6).trans rfl; have r7 := (blk_cell hz 7).trans rfl; have r8 := (blk_cell hz 8).trans rfl; have r9 := (blk_cell hz 9).trans rfl; have HZ := Aside0.mk hz)); have G2 := Aside0.mk g2; have G3 := Aside0.mk g3; have G4 := Aside0.mk g4; clear g2 g3 g4 hv4 hb HVA) | (have hva_ := HVN.out; clear hva_; go_at_call 16; refine (do_callsR _ w.heap.size aw0 1 ⟨#[97, 98]⟩ _ _ ok_aw0 (by decide) ?hv ?hs ?hh).mono ?_; (case hv => (refine HVN.out.below ?_; first | exact below_alloc (Below.refl _ _) _ | exact Below.refl _ _)); (case hs => (refine Nat.le_trans HH.out.2.2.size ?_; first | exact (below_alloc HBx.out _).size | exact HBx.out.size)); (case hh => (refine (HH.out.below ?_).hi; first | exact below_alloc HBx.out _ | exact HBx.out)); rw [aw_1]; rintro e w4 ⟨v4, rfl, hv4, hb⟩; (try (have hz := blk_below hz hb)); (try (have hz := hz_new hb; first | have HGZ := Aside0.mk HBx.out.size | have HGZ := Aside0.mk (below_drew (Below.refl w1.heap.size w1)).size)); have HBx : Aside0 (Below w1.heap.size w1 _) := ⟨by refine below_step ?_ hb; first | exact below_alloc HBx.out _ | exact HBx.out | exact below_alloc (below_drew (Below.refl _ _)) _ | exact below_drew (Below.refl _ _)⟩; have HVA := Aside0.mk hv4; clear hv4 hb HVN) | (trace_state; fail))
    all_goals (go_wp2; go_meet)
    all_goals
      case rel =>
        first
        | (have hzz := HZ.out; exact ⟨_, rfl, ⟨⟨HH.out.below (fillW_below HBx.out HGZ.out), Ak, Au, Ar, ck, cu, cr, fillW_blk HZ.out, fillW_R E_string (by decide) G2.out HZ.out, fillW_R E_k23 (by decide) G3.out HZ.out, fillW_R E_k23 (by decide) G4.out HZ.out⟩⟩⟩)
        | exact ⟨_, rfl, ⟨⟨HH.out.below (below_alloc HBx.out _), Ak, Au, Ar, ck, cu, cr, blk_new _ _, Kd.R_alloc G2.out _, Kd.R_alloc G3.out _, Kd.R_alloc G4.out _⟩⟩⟩
  case rest =>
    obtain ⟨ge, rfl, hA⟩ := hcut
    have HH0 := Aside0.mk hA.out.1
    have HEe := Aside0.mk hA.out.2
    clear hA
    obtain ⟨Wa, hWa⟩ : ∃ z, z = wc := ⟨_, rfl⟩
    rw [← hWa] at HH0 HEe ⊢
    clear hWa
    have h0 := HH0.out.c0
    have h1 := HH0.out.c1
    obtain ⟨Ake, Aue, Are, cke, cue, cre, hbe, hke, hue, hre⟩ := HEe.out
    have e0 := (blk_cell hbe 0).trans rfl
    have e1 := (blk_cell hbe 1).trans rfl
    have e2 := (blk_cell hbe 2).trans rfl
    have e3 := (blk_cell hbe 3).trans rfl
    have e4 := (blk_cell hbe 4).trans rfl
    have e5 := (blk_cell hbe 5).trans rfl
    have e6 := (blk_cell hbe 6).trans rfl
    have e7 := (blk_cell hbe 7).trans rfl
    have e8 := (blk_cell hbe 8).trans rfl
    have e9 := (blk_cell hbe 9).trans rfl
    have hsz : w.heap.size ≤ Wa.heap.size := HH0.out.2.2.size
    have hv : EdR Wa w.heap.size aw2 (.agg #[.string aw2.text, .int .i64 aw2.pos, .int .i64 aw2.mark, .slice Ake aw2.kills.length cke, .slice Aue aw2.undo.length cue, .slice Are aw2.redo.length cre, .string aw2.keys, .int .i64 aw2.last, .int .i64 aw2.line, .string aw2.saved]) := ⟨Ake, Aue, Are, cke, cue, cre, rfl, hke, hue, hre⟩
    have HV := Aside0.mk hv
    have HSZ := Aside0.mk hsz
    clear hv hsz hke hue hre
    go_wp2_with (fail)
    refine (do_callsR Wa w.heap.size aw2 17 ⟨#[]⟩ _ _ ok_aw2 (by decide) HV.out HSZ.out HH0.out.hi).mono ?_
    rw [aw_u]
    rintro e w4 ⟨v4, rfl, hv4, hb⟩
    obtain ⟨Ak, Au, Ar, ck, cu, cr, rfl, g2, g3, g4⟩ := hv4.opn
    obtain ⟨Wb, hW⟩ : ∃ z, z = w4.alloc (.cells #[.string awu.text, .int .i64 awu.pos, .int .i64 awu.mark, .slice Ak awu.kills.length ck, .slice Au awu.undo.length cu, .slice Ar awu.redo.length cr, .string awu.keys, .int .i64 awu.last, .int .i64 awu.line, .string awu.saved] 27) := ⟨_, rfl⟩
    have hb2 : Below Wa.heap.size Wa Wb := by rw [hW]; exact below_alloc hb _
    have HEu := Aside0.mk (show EBox Wb w.heap.size w4.heap.size awu from by rw [hW]; exact ⟨Ak, Au, Ar, ck, cu, cr, blk_new _ _, Kd.R_alloc g2 _, Kd.R_alloc g3 _, Kd.R_alloc g4 _⟩)
    have HHn := Aside0.mk (HH0.out.below hb2)
    have HEen := Aside0.mk (HEe.out.below hb2)
    have HW := Aside0.mk hW
    clear hv4 hb hb2 g2 g3 g4 hW HV HSZ  HH0 HEe
    have HH0 := HHn
    clear HHn
    have HEe := HEen
    clear HEen
    clear h0 h1 hbe e0 e1 e2 e3 e4 e5 e6 e7 e8 e9
    go_upto_region 5 with (fail)
    rw [← HW.out]
    clear HW
    obtain ⟨gu, hgu⟩ : ∃ z, z = w4.heap.size := ⟨_, rfl⟩
    rw [← hgu] at HEu ⊢
    clear hgu
    have h0 := HH0.out.c0
    have h1 := HH0.out.c1
    obtain ⟨Aku, Auu, Aru, cku, cuu, cru, hbu, hku, huu, hru⟩ := HEu.out
    have u0 := (blk_cell hbu 0).trans rfl
    have u1 := (blk_cell hbu 1).trans rfl
    have u2 := (blk_cell hbu 2).trans rfl
    have u3 := (blk_cell hbu 3).trans rfl
    have u4 := (blk_cell hbu 4).trans rfl
    have u5 := (blk_cell hbu 5).trans rfl
    have u6 := (blk_cell hbu 6).trans rfl
    have u7 := (blk_cell hbu 7).trans rfl
    have u8 := (blk_cell hbu 8).trans rfl
    have u9 := (blk_cell hbu 9).trans rfl
    have hsz : w.heap.size ≤ Wb.heap.size := HH0.out.2.2.size
    have hv : EdR Wb w.heap.size awu (.agg #[.string awu.text, .int .i64 awu.pos, .int .i64 awu.mark, .slice Aku awu.kills.length cku, .slice Auu awu.undo.length cuu, .slice Aru awu.redo.length cru, .string awu.keys, .int .i64 awu.last, .int .i64 awu.line, .string awu.saved]) := ⟨Aku, Auu, Aru, cku, cuu, cru, rfl, hku, huu, hru⟩
    have HV := Aside0.mk hv
    have HSZ := Aside0.mk hsz
    clear hv hsz hku huu hru
    go_wp2_with (fail)
    refine (do_callsR Wb w.heap.size awu 18 ⟨#[]⟩ _ _ ok_awu (by decide) HV.out HSZ.out HH0.out.hi).mono ?_
    rw [aw_r]
    rintro e w4 ⟨v4, rfl, hv4, hb⟩
    obtain ⟨Ak, Au, Ar, ck, cu, cr, rfl, g2, g3, g4⟩ := hv4.opn
    obtain ⟨Wc, hW⟩ : ∃ z, z = w4.alloc (.cells #[.string awr.text, .int .i64 awr.pos, .int .i64 awr.mark, .slice Ak awr.kills.length ck, .slice Au awr.undo.length cu, .slice Ar awr.redo.length cr, .string awr.keys, .int .i64 awr.last, .int .i64 awr.line, .string awr.saved] 27) := ⟨_, rfl⟩
    have hb2 : Below Wb.heap.size Wb Wc := by rw [hW]; exact below_alloc hb _
    have HEr := Aside0.mk (show EBox Wc w.heap.size w4.heap.size awr from by rw [hW]; exact ⟨Ak, Au, Ar, ck, cu, cr, blk_new _ _, Kd.R_alloc g2 _, Kd.R_alloc g3 _, Kd.R_alloc g4 _⟩)
    have HHn := Aside0.mk (HH0.out.below hb2)
    have HEen := Aside0.mk (HEe.out.below hb2)
    have HEun := Aside0.mk (HEu.out.below hb2)
    have HW := Aside0.mk hW
    clear hv4 hb hb2 g2 g3 g4 hW HV HSZ  HH0 HEe HEu
    have HH0 := HHn
    clear HHn
    have HEe := HEen
    clear HEen
    have HEu := HEun
    clear HEun
    clear h0 h1 hbu u0 u1 u2 u3 u4 u5 u6 u7 u8 u9
    go_upto_region 6 with (fail)
    rw [← HW.out]
    clear HW
    obtain ⟨gr, hgr⟩ : ∃ z, z = w4.heap.size := ⟨_, rfl⟩
    rw [← hgr] at HEr ⊢
    clear hgr
    have h0 := HH0.out.c0
    have h1 := HH0.out.c1
    obtain ⟨Ake, Aue, Are, cke, cue, cre, hbe, hke, hue, hre⟩ := HEe.out
    have e0 := (blk_cell hbe 0).trans rfl
    have e1 := (blk_cell hbe 1).trans rfl
    have e2 := (blk_cell hbe 2).trans rfl
    have e3 := (blk_cell hbe 3).trans rfl
    have e4 := (blk_cell hbe 4).trans rfl
    have e5 := (blk_cell hbe 5).trans rfl
    have e6 := (blk_cell hbe 6).trans rfl
    have e7 := (blk_cell hbe 7).trans rfl
    have e8 := (blk_cell hbe 8).trans rfl
    have e9 := (blk_cell hbe 9).trans rfl
    have hsz : w.heap.size ≤ Wc.heap.size := HH0.out.2.2.size
    have hv : EdR Wc w.heap.size aw2 (.agg #[.string aw2.text, .int .i64 aw2.pos, .int .i64 aw2.mark, .slice Ake aw2.kills.length cke, .slice Aue aw2.undo.length cue, .slice Are aw2.redo.length cre, .string aw2.keys, .int .i64 aw2.last, .int .i64 aw2.line, .string aw2.saved]) := ⟨Ake, Aue, Are, cke, cue, cre, rfl, hke, hue, hre⟩
    have hbl : Below Wc.heap.size Wc (Wc.alloc (.cells #[.string ⟨#[113]⟩, .int .i64 12] 46)) := below_alloc (Below.refl _ _) _
    have HL := Aside0.mk (C_of_R (lit_bind Wc ⟨⟨#[113]⟩, 12⟩ (Nat.le_refl _)))
    have HV := Aside0.mk (hv.below hbl).ed
    have HSZ := Aside0.mk hsz
    have HHb := Aside0.mk (HH0.out.below hbl)
    have h0b := HHb.out.c0
    have h1b := HHb.out.c1
    have hlt := blk_lt HH0.out.1
    have hlt2 : ¬ w.heap.size = Wc.heap.size := by omega
    clear hlt
    have HBL := Aside0.mk hbl
    clear hv hsz hke hue hre hbl
    go_wp2_with (fail)
    refine (key_calls (Wc.alloc (.cells #[.string ⟨#[113]⟩, .int .i64 12] 46)) aw2 113 12 0 9 [⟨⟨#[113]⟩, 12⟩] _ _ _ 1 ok_aw2 (by decide) (by decide) (by decide) HV.out HHb.out.hi HL.out (Nat.le_refl _) aw_f).mono ?_
    rw [aw_k]
    rintro e w4 ⟨v4, rfl, hv4, hb⟩
    clear h0b h1b hlt2
    have hv4 := hv4.lower (b := w.heap.size) (Nat.le_trans HSZ.out HBL.out.size)
    have hb := below_step HBL.out hb
    obtain ⟨Ak, Au, Ar, ck, cu, cr, rfl, g2, g3, g4⟩ := hv4.opn
    obtain ⟨Wd, hW⟩ : ∃ z, z = w4.alloc (.cells #[.string awk.text, .int .i64 awk.pos, .int .i64 awk.mark, .slice Ak awk.kills.length ck, .slice Au awk.undo.length cu, .slice Ar awk.redo.length cr, .string awk.keys, .int .i64 awk.last, .int .i64 awk.line, .string awk.saved] 27) := ⟨_, rfl⟩
    have hb2 : Below Wc.heap.size Wc Wd := by rw [hW]; exact below_alloc hb _
    have HEk := Aside0.mk (show EBox Wd w.heap.size w4.heap.size awk from by rw [hW]; exact ⟨Ak, Au, Ar, ck, cu, cr, blk_new _ _, Kd.R_alloc g2 _, Kd.R_alloc g3 _, Kd.R_alloc g4 _⟩)
    have HHn := Aside0.mk (HH0.out.below hb2)
    have HEen := Aside0.mk (HEe.out.below hb2)
    have HEun := Aside0.mk (HEu.out.below hb2)
    have HErn := Aside0.mk (HEr.out.below hb2)
    have HW := Aside0.mk hW
    clear hv4 hb hb2 g2 g3 g4 hW HV HSZ HL HHb HBL HH0 HEe HEu HEr
    have HH0 := HHn
    clear HHn
    have HEe := HEen
    clear HEen
    have HEu := HEun
    clear HEun
    have HEr := HErn
    clear HErn
    clear h0 h1 hbe e0 e1 e2 e3 e4 e5 e6 e7 e8 e9
    go_upto_region 7 with (fail)
    rw [← HW.out]
    clear HW
    obtain ⟨gk, hgk⟩ : ∃ z, z = w4.heap.size := ⟨_, rfl⟩
    rw [← hgk] at HEk ⊢
    clear hgk
    have h0 := HH0.out.c0
    have h1 := HH0.out.c1
    obtain ⟨Ake, Aue, Are, cke, cue, cre, hbe, hke, hue, hre⟩ := HEe.out
    have e0 := (blk_cell hbe 0).trans rfl
    have e1 := (blk_cell hbe 1).trans rfl
    have e2 := (blk_cell hbe 2).trans rfl
    have e3 := (blk_cell hbe 3).trans rfl
    have e4 := (blk_cell hbe 4).trans rfl
    have e5 := (blk_cell hbe 5).trans rfl
    have e6 := (blk_cell hbe 6).trans rfl
    have e7 := (blk_cell hbe 7).trans rfl
    have e8 := (blk_cell hbe 8).trans rfl
    have e9 := (blk_cell hbe 9).trans rfl
    have hsz : w.heap.size ≤ Wd.heap.size := HH0.out.2.2.size
    have hv : EdR Wd w.heap.size aw2 (.agg #[.string aw2.text, .int .i64 aw2.pos, .int .i64 aw2.mark, .slice Ake aw2.kills.length cke, .slice Aue aw2.undo.length cue, .slice Are aw2.redo.length cre, .string aw2.keys, .int .i64 aw2.last, .int .i64 aw2.line, .string aw2.saved]) := ⟨Ake, Aue, Are, cke, cue, cre, rfl, hke, hue, hre⟩
    have HV := Aside0.mk hv
    have HSZ := Aside0.mk hsz
    clear hv hsz hke hue hre
    go_wp2_with (fail)
    refine (do_callsR Wd w.heap.size aw2 20 ⟨#[]⟩ _ _ ok_aw2 (by decide) HV.out HSZ.out HH0.out.hi).mono ?_
    rw [aw_up]
    rintro e w4 ⟨v4, rfl, hv4, hb⟩
    obtain ⟨Ak, Au, Ar, ck, cu, cr, rfl, g2, g3, g4⟩ := hv4.opn
    obtain ⟨We, hW⟩ : ∃ z, z = w4.alloc (.cells #[.string awup.text, .int .i64 awup.pos, .int .i64 awup.mark, .slice Ak awup.kills.length ck, .slice Au awup.undo.length cu, .slice Ar awup.redo.length cr, .string awup.keys, .int .i64 awup.last, .int .i64 awup.line, .string awup.saved] 27) := ⟨_, rfl⟩
    have hb2 : Below Wd.heap.size Wd We := by rw [hW]; exact below_alloc hb _
    have HEp := Aside0.mk (show EBox We w.heap.size w4.heap.size awup from by rw [hW]; exact ⟨Ak, Au, Ar, ck, cu, cr, blk_new _ _, Kd.R_alloc g2 _, Kd.R_alloc g3 _, Kd.R_alloc g4 _⟩)
    have HHn := Aside0.mk (HH0.out.below hb2)
    have HEen := Aside0.mk (HEe.out.below hb2)
    have HEun := Aside0.mk (HEu.out.below hb2)
    have HErn := Aside0.mk (HEr.out.below hb2)
    have HEkn := Aside0.mk (HEk.out.below hb2)
    have HW := Aside0.mk hW
    clear hv4 hb hb2 g2 g3 g4 hW HV HSZ  HH0 HEe HEu HEr HEk
    have HH0 := HHn
    clear HHn
    have HEe := HEen
    clear HEen
    have HEu := HEun
    clear HEun
    have HEr := HErn
    clear HErn
    have HEk := HEkn
    clear HEkn
    clear h0 h1 hbe e0 e1 e2 e3 e4 e5 e6 e7 e8 e9
    go_upto_region 8 with (fail)
    rw [← HW.out]
    clear HW
    obtain ⟨gp, hgp⟩ : ∃ z, z = w4.heap.size := ⟨_, rfl⟩
    rw [← hgp] at HEp ⊢
    clear hgp
    have h0 := HH0.out.c0
    have h1 := HH0.out.c1
    obtain ⟨Akp, Aup, Arp, ckp, cup, crp, hbp, hkp, hup, hrp⟩ := HEp.out
    have p0 := (blk_cell hbp 0).trans rfl
    have p1 := (blk_cell hbp 1).trans rfl
    have p2 := (blk_cell hbp 2).trans rfl
    have p3 := (blk_cell hbp 3).trans rfl
    have p4 := (blk_cell hbp 4).trans rfl
    have p5 := (blk_cell hbp 5).trans rfl
    have p6 := (blk_cell hbp 6).trans rfl
    have p7 := (blk_cell hbp 7).trans rfl
    have p8 := (blk_cell hbp 8).trans rfl
    have p9 := (blk_cell hbp 9).trans rfl
    have hsz : w.heap.size ≤ We.heap.size := HH0.out.2.2.size
    have hv : EdR We w.heap.size awup (.agg #[.string awup.text, .int .i64 awup.pos, .int .i64 awup.mark, .slice Akp awup.kills.length ckp, .slice Aup awup.undo.length cup, .slice Arp awup.redo.length crp, .string awup.keys, .int .i64 awup.last, .int .i64 awup.line, .string awup.saved]) := ⟨Akp, Aup, Arp, ckp, cup, crp, rfl, hkp, hup, hrp⟩
    have HV := Aside0.mk hv
    have HSZ := Aside0.mk hsz
    clear hv hsz hkp hup hrp
    go_wp2_with (fail)
    refine (do_callsR We w.heap.size awup 21 ⟨#[]⟩ _ _ ok_awup (by decide) HV.out HSZ.out HH0.out.hi).mono ?_
    rw [aw_dn]
    rintro e w4 ⟨v4, rfl, hv4, hb⟩
    obtain ⟨Ak, Au, Ar, ck, cu, cr, rfl, g2, g3, g4⟩ := hv4.opn
    obtain ⟨Wf, hW⟩ : ∃ z, z = w4.alloc (.cells #[.string awdn.text, .int .i64 awdn.pos, .int .i64 awdn.mark, .slice Ak awdn.kills.length ck, .slice Au awdn.undo.length cu, .slice Ar awdn.redo.length cr, .string awdn.keys, .int .i64 awdn.last, .int .i64 awdn.line, .string awdn.saved] 27) := ⟨_, rfl⟩
    have hb2 : Below We.heap.size We Wf := by rw [hW]; exact below_alloc hb _
    have HEd := Aside0.mk (show EBox Wf w.heap.size w4.heap.size awdn from by rw [hW]; exact ⟨Ak, Au, Ar, ck, cu, cr, blk_new _ _, Kd.R_alloc g2 _, Kd.R_alloc g3 _, Kd.R_alloc g4 _⟩)
    have HHn := Aside0.mk (HH0.out.below hb2)
    have HEen := Aside0.mk (HEe.out.below hb2)
    have HEun := Aside0.mk (HEu.out.below hb2)
    have HErn := Aside0.mk (HEr.out.below hb2)
    have HEkn := Aside0.mk (HEk.out.below hb2)
    have HEpn := Aside0.mk (HEp.out.below hb2)
    have HW := Aside0.mk hW
    clear hv4 hb hb2 g2 g3 g4 hW HV HSZ  HH0 HEe HEu HEr HEk HEp
    have HH0 := HHn
    clear HHn
    have HEe := HEen
    clear HEen
    have HEu := HEun
    clear HEun
    have HEr := HErn
    clear HErn
    have HEk := HEkn
    clear HEkn
    have HEp := HEpn
    clear HEpn
    clear h0 h1 hbp p0 p1 p2 p3 p4 p5 p6 p7 p8 p9
    go_upto_region 9 with (fail)
    rw [← HW.out]
    clear HW
    obtain ⟨gd, hgd⟩ : ∃ z, z = w4.heap.size := ⟨_, rfl⟩
    rw [← hgd] at HEd ⊢
    clear hgd
    have hbw : Below w.heap.size w Wf := HH0.out.2.2
    have HBW := Aside0.mk hbw
    clear hbw
    obtain ⟨Ake, Aue, Are, cke, cue, cre, hbe, hke, hue, hre⟩ := HEe.out
    have e2 := (blk_cell hbe 2).trans rfl
    have e3 := (blk_cell hbe 3).trans rfl
    have e4 := (blk_cell hbe 4).trans rfl
    have e5 := (blk_cell hbe 5).trans rfl
    have e6 := (blk_cell hbe 6).trans rfl
    have e7 := (blk_cell hbe 7).trans rfl
    have e8 := (blk_cell hbe 8).trans rfl
    have e9 := (blk_cell hbe 9).trans rfl
    have e0 : Wf.cell? ⟨ge, 0, none⟩ = some (.string ⟨#[97, 98, 99]⟩) := (blk_cell hbe 0).trans rfl
    have e1 : Wf.cell? ⟨ge, 1, none⟩ = some (.int .i64 3) := (blk_cell hbe 1).trans rfl
    obtain ⟨Aku, Auu, Aru, cku, cuu, cru, hbu, hku, huu, hru⟩ := HEu.out
    have u0 : Wf.cell? ⟨gu, 0, none⟩ = some (.string ⟨#[]⟩) := (blk_cell hbu 0).trans rfl
    obtain ⟨Akr, Aur, Arr, ckr, cur, crr, hbr, hkr, hur, hrr⟩ := HEr.out
    have r0 : Wf.cell? ⟨gr, 0, none⟩ = some (.string ⟨#[97, 98, 99]⟩) := (blk_cell hbr 0).trans rfl
    have r1 : Wf.cell? ⟨gr, 1, none⟩ = some (.int .i64 3) := (blk_cell hbr 1).trans rfl
    obtain ⟨Akp, Aup, Arp, ckp, cup, crp, hbp, hkp, hup, hrp⟩ := HEp.out
    have p0 : Wf.cell? ⟨gp, 0, none⟩ = some (.string ⟨#[121]⟩) := (blk_cell hbp 0).trans rfl
    have p8 : Wf.cell? ⟨gp, 8, none⟩ = some (.int .i64 1) := (blk_cell hbp 8).trans rfl
    obtain ⟨Akd, Aud, Ard, ckd, cud, crd, hbd, hkd, hud, hrd⟩ := HEd.out
    have d0 : Wf.cell? ⟨gd, 0, none⟩ = some (.string ⟨#[97, 98, 99]⟩) := (blk_cell hbd 0).trans rfl
    have d8 : Wf.cell? ⟨gd, 8, none⟩ = some (.int .i64 0) := (blk_cell hbd 8).trans rfl
    obtain ⟨Akk, Auk, Ark, ckk, cuk, crk, hbk, hkk, huk, hrk⟩ := HEk.out
    obtain ⟨gq, n2, he, _⟩ := Kd.R_form hkk (by decide)
    injection he with he1 he2 he3
    subst he1
    have k0 : Wf.cell? ⟨gk, 0, none⟩ = some (.string ⟨#[]⟩) := (blk_cell hbk 0).trans rfl
    have k3 : Wf.cell? ⟨gk, 3, none⟩ = some (.slice (some ⟨gq, 0, none⟩) 1 ckk) := (blk_cell hbk 3).trans rfl
    have kq : Wf.cell? ⟨gq, 0, none⟩ = some (.string ⟨#[97, 98, 99]⟩) := (last_cell hkk (by decide)).1
    have HKe := Aside0.mk hke
    have HUe := Aside0.mk hue
    have HRe := Aside0.mk hre
    clear hbe hbu hbr hbp hbd hbk hke hue hre hku huu hru hkr hur hrr hkp hup hrp hkd hud hrd hkk huk hrk he2 he3
    go_wp2_with (fail)
    refine (editor_Valid.calls 99 aw2.text aw2.pos aw2.mark Ake cke aw2.kills Aue cue aw2.undo Are cre aw2.redo aw2.keys aw2.last aw2.line aw2.saved 0 Wf (C_of_R HKe.out) (Kd.R_reads' HKe.out).2.1 (C_of_R HUe.out) (Kd.R_reads' HUe.out).2.1 (C_of_R HRe.out) (Kd.R_reads' HRe.out).2.1 aw_v0).mono ?_
    rintro e w5 ⟨rfl, hb5⟩
    have HB5 := Aside0.mk (below_step HBW.out hb5)
    clear hb5
    go_wp2_with (fail)
    refine (editor_Valid.calls 99 ⟨#[]⟩ 0 1 none 0 [] none 0 [] none 0 [] ⟨#[]⟩ 0 0 ⟨#[]⟩ 2 w5 (C_of_R (Kd.R_nil Kd.string 9 w5 0 (fun _ => True))) (Nat.le_refl _) (C_of_R (Kd.R_nil k23 23 w5 0 (fun _ => True))) (Nat.le_refl _) (C_of_R (Kd.R_nil k23 23 w5 0 (fun _ => True))) (Nat.le_refl _) aw_v1).mono ?_
    rintro e w6 ⟨rfl, hb6⟩
    have HB6 := Aside0.mk (below_step HB5.out hb6)
    clear hb6
    go_wp2_with (fail)
    go_ret
    exact ⟨rfl, HB6.out⟩
end Go.Proofs.Ytlbbjdggebgabaa.P
end

section
/- The statements' own types: an editor, a history, a call, as values. -/
namespace Go.Proofs.Ytlbbjdggebgabaa.P
open Go.RowKit Go.Proofs.YtlbbjdggebgabaaW.PrintWords Go.Proofs.YtlbbjdggebgabaaW.PrintLast Go.Proofs.YtlbbjdggebgabaaW.PrintMore
set_option linter.unusedVariables false
set_option linter.unusedSimpArgs false

structure S27 where
  f0 : S23
  f1 : Int
  f2 : List ByteArray
  f3 : List S23
  f4 : List S23
  f5 : ByteArray
  f6 : Int
  f7 : Int
  f8 : ByteArray
structure S38 where
  f0 : Int
  f1 : List ByteArray
structure S36 where
  f0 : Int
  f1 : ByteArray
def k27 : Kd S27 := Kd.iso (Kd.pair k23 (Kd.pair (Kd.int .i64) (Kd.pair (Kd.slice 9 Kd.string) (Kd.pair (Kd.slice 23 k23) (Kd.pair (Kd.slice 23 k23) (Kd.pair Kd.string (Kd.pair (Kd.int .i64) (Kd.pair (Kd.int .i64) Kd.string)))))))) (fun x : S27 => (x.f0, x.f1, x.f2, x.f3, x.f4, x.f5, x.f6, x.f7, x.f8))
def k38 : Kd S38 := Kd.iso (Kd.pair (Kd.int .i64) (Kd.slice 9 Kd.string)) (fun x : S38 => (x.f0, x.f1))
def k36 : Kd S36 := Kd.iso (Kd.pair (Kd.int .i64) Kd.string) (fun x : S36 => (x.f0, x.f1))
theorem k36_open {w : World} {x : S36} {cs : List Value} (h : k36.K w x cs) : cs = [.int .i64 x.f0, .string x.f1] := by
  obtain ⟨_, _, rfl, rfl, rfl⟩ := h
  exact rfl
theorem k38_open {w : World} {x : S38} {cs : List Value} (h : k38.K w x cs) : ∃ (A : Option Addr) (c : Nat), cs = [.int .i64 x.f0, .slice A x.f1.length c] ∧ x.f1.length ≤ c ∧ Kd.C Kd.string w A x.f1.length x.f1 := by
  obtain ⟨_, _, rfl, rfl, A, c, rfl, h1, h2⟩ := h
  exact ⟨A, c, rfl, h1, h2⟩
theorem k27_open {w : World} {x : S27} {cs : List Value} (h : k27.K w x cs) : ∃ (A3 : Option Addr) (c3 : Nat) (A4 : Option Addr) (c4 : Nat) (A5 : Option Addr) (c5 : Nat), cs = [.string x.f0.f0, .int .i64 x.f0.f1, .int .i64 x.f1, .slice A3 x.f2.length c3, .slice A4 x.f3.length c4, .slice A5 x.f4.length c5, .string x.f5, .int .i64 x.f6, .int .i64 x.f7, .string x.f8] ∧
    x.f2.length ≤ c3 ∧ Kd.C Kd.string w A3 x.f2.length x.f2 ∧ x.f3.length ≤ c4 ∧ Kd.C k23 w A4 x.f3.length x.f3 ∧ x.f4.length ≤ c5 ∧ Kd.C k23 w A5 x.f4.length x.f4 := by
  obtain ⟨_, _, rfl, ⟨_, _, rfl, rfl, rfl⟩, _, _, rfl, rfl, _, _, rfl, ⟨A3, c3, rfl, l3, g3⟩, _, _, rfl, ⟨A4, c4, rfl, l4, g4⟩, _, _, rfl, ⟨A5, c5, rfl, l5, g5⟩, _, _, rfl, rfl, _, _, rfl, rfl, _, _, rfl, rfl, rfl⟩ := h
  exact ⟨A3, c3, A4, c4, A5, c5, rfl, l3, g3, l4, g4, l5, g5⟩
end Go.Proofs.Ytlbbjdggebgabaa.P
end
