/- Texts of this claim, joined: G1, G3, Q0, R0, R1, R2, R3. -/
import Derived.Test.YtlbbjdggebgabaaRDM5
import Derived.Test.YtlbbjdggebgabaaRDM6
import Derived.Test.YtlbbjdggebgabaaRDM3
import Derived.Deep.RegionHeld3
import Derived.Test.YtlbbjdggebgabaaRDM4
section
/- The law's own examples: awake. -/
namespace Go.Proofs.Ytlbbjdggebgabaa.P
open Go.RowKit Go.Proofs.YtlbbjdggebgabaaW.PrintWords Go.Proofs.YtlbbjdggebgabaaW.PrintLast Go.Proofs.YtlbbjdggebgabaaW.PrintMore
set_option linter.unusedVariables false
set_option linter.unusedSimpArgs false

def aw0 : St := ⟨⟨#[]⟩, 0, 0, [], [], [], ⟨#[]⟩, 0, 0, ⟨#[]⟩, 0, [⟨#[120]⟩, ⟨#[121]⟩]⟩
def aw1 : St := { aw0 with text := ⟨#[97, 98]⟩, pos := 2, undo := [⟨⟨#[]⟩, 0⟩], last := 1 }
def aw2 : St := { aw1 with text := ⟨#[97, 98, 99]⟩, pos := 3 }
def awu : St := { aw2 with text := ⟨#[]⟩, pos := 0, undo := [], redo := [⟨⟨#[97, 98, 99]⟩, 3⟩], last := 17 }
def awr : St := { aw2 with last := 18 }
def awk : St := { aw2 with text := ⟨#[]⟩, pos := 0, kills := [⟨#[97, 98, 99]⟩], undo := [⟨⟨#[]⟩, 0⟩, ⟨⟨#[97, 98, 99]⟩, 3⟩], last := 12 }
def awup : St := { aw2 with text := ⟨#[121]⟩, pos := 1, undo := [], saved := ⟨#[97, 98, 99]⟩, line := 1, last := 20 }
def awdn : St := { aw2 with undo := [], last := 21 }
theorem aw_1 : doS aw0 1 ⟨#[97, 98]⟩ = aw1 := by kernel_rfl
theorem aw_2 : doS aw1 1 ⟨#[99]⟩ = aw2 := by kernel_rfl
theorem aw_u : doS aw2 17 ⟨#[]⟩ = awu := by kernel_rfl
theorem aw_r : doS awu 18 ⟨#[]⟩ = awr := by kernel_rfl
theorem aw_f : keymap_Find.f 9 [⟨⟨#[113]⟩, 12⟩] (keysOf aw2 113) = some (12, 0) := by kernel_rfl
theorem aw_k : doS { aw2 with keys := ⟨#[]⟩ } 12 (keysOf aw2 113) = awk := by kernel_rfl
theorem aw_up : doS aw2 20 ⟨#[]⟩ = awup := by kernel_rfl
theorem aw_dn : doS awup 21 ⟨#[]⟩ = awdn := by kernel_rfl
theorem good_aw2 : Good aw2 := good_of aw2 (by kernel_rfl)

/-- An editor in a box. -/
def EBox (W : World) (base g : Nat) (s : St) : Prop := ∃ (Ak Au Ar : Option Addr) (ck cu cr : Nat), W.heap[g]? = some (.cells #[.string s.text, .int .i64 s.pos, .int .i64 s.mark, .slice Ak s.kills.length ck, .slice Au s.undo.length cu, .slice Ar s.redo.length cr, .string s.keys, .int .i64 s.last, .int .i64 s.line, .string s.saved] 27 (0, 0)) ∧
  Kd.R Kd.string 9 W base (fun _ => True) (.slice Ak s.kills.length ck) s.kills ∧ Kd.R k23 23 W base (fun _ => True) (.slice Au s.undo.length cu) s.undo ∧ Kd.R k23 23 W base (fun _ => True) (.slice Ar s.redo.length cr) s.redo
theorem EBox.below {W W1 : World} {base g : Nat} {s : St} (h : EBox W base g s) (hb : Below W.heap.size W W1) : EBox W1 base g s := by
  obtain ⟨Ak, Au, Ar, ck, cu, cr, h0, h1, h2, h3⟩ := h
  exact ⟨Ak, Au, Ar, ck, cu, cr, blk_below h0 hb, Kd.R_below h1 hb, Kd.R_below h2 hb, Kd.R_below h3 hb⟩
/-- The history's box. -/
def HBox (W : World) (w : World) : Prop := W.heap[w.heap.size]? = some (.cells #[.int .i64 0, .slice (some ⟨w.heap.size + 1, 0, none⟩) 2 2] 38 (0, 0)) ∧ Kd.C Kd.string W (some ⟨w.heap.size + 1, 0, none⟩) 2 [⟨#[120]⟩, ⟨#[121]⟩] ∧ Below w.heap.size w W
theorem HBox.below {W W1 w : World} (h : HBox W w) (hb : Below W.heap.size W W1) : HBox W1 w := ⟨blk_below h.1 hb, Kd.C_below h.2.1 hb, below_step h.2.2 hb⟩
theorem HBox.c0 {W w : World} (h : HBox W w) : W.cell? ⟨w.heap.size, 0, none⟩ = some (.int .i64 0) := (blk_cell h.1 0).trans rfl
theorem HBox.c1 {W w : World} (h : HBox W w) : W.cell? ⟨w.heap.size, 1, none⟩ = some (.slice (some ⟨w.heap.size + 1, 0, none⟩) 2 2) := (blk_cell h.1 1).trans rfl
theorem HBox.hi {W w : World} (h : HBox W w) : HiC W 0 [⟨#[120]⟩, ⟨#[121]⟩] (.agg #[.int .i64 0, .slice (some ⟨w.heap.size + 1, 0, none⟩) 2 2]) := ⟨_, 2, rfl, Nat.le_refl _, h.2.1⟩
theorem HBox.made (w : World) : HBox ((w.alloc (.cells #[.int .i64 0, .slice (some ⟨w.heap.size + 1, 0, none⟩) 2 2] 38)).alloc (.cells #[.string ⟨#[120]⟩, .string ⟨#[121]⟩] 9)) w := by
  refine ⟨blk_alloc (blk_new w _) _, ?_, below_alloc (below_alloc (Below.refl _ _) _) _⟩
  have h : Kd.R Kd.string 9 ((w.alloc (.cells #[.int .i64 0, .slice (some ⟨w.heap.size + 1, 0, none⟩) 2 2] 38)).alloc (.cells #[.string ⟨#[120]⟩, .string ⟨#[121]⟩] 9)) w.heap.size (fun _ => True) (.slice (some ⟨(w.alloc (.cells #[.int .i64 0, .slice (some ⟨w.heap.size + 1, 0, none⟩) 2 2] 38)).heap.size, 0, none⟩) 2 2) [⟨#[120]⟩, ⟨#[121]⟩] :=
    Kd.R_of_own (enc := Value.string) (h1 := fun _ => rfl) (by simpa [encs] using World.ownsRow_lit (base := w.heap.size) (e := 9) (size := 1) (w.alloc (.cells #[.int .i64 0, .slice (some ⟨w.heap.size + 1, 0, none⟩) 2 2] 38)) #[.string ⟨#[120]⟩, .string ⟨#[121]⟩] 2 (by simp) (by decide) rfl) (fun _ _ => trivial)
  have h2 := C_of_R h
  simpa using h2
theorem lit_bind (w : World) (x : S46) {base : Nat} (hb : base ≤ w.heap.size) : Kd.R k46 46 (w.alloc (.cells #[.string x.f0, .int .i64 x.f1] 46)) base (fun _ => True) (.slice (some ⟨w.heap.size, 0, none⟩) 1 1) [x] :=
  ⟨fun _ _ => trivial, [.string x.f0, .int .i64 x.f1], World.ownsRow_lit (base := base) (e := 46) (size := 2) w #[.string x.f0, .int .i64 x.f1] 1 hb (by decide) rfl, Reps.c2 (k46_mkM _ _ _ x) (Reps.none _ _)⟩
theorem ok_aw0 : OkS aw0 := by constructor <;> decide
theorem ok_aw1 : OkS aw1 := by constructor <;> decide
theorem ok_aw2 : OkS aw2 := by constructor <;> decide
theorem ok_awu : OkS awu := by constructor <;> decide
theorem ok_awup : OkS awup := by constructor <;> decide
theorem EdR.opn {W : World} {base : Nat} {s : St} {v : Value} (h : EdR W base s v) : ∃ (Ak Au Ar : Option Addr) (ck cu cr : Nat), v = .agg #[.string s.text, .int .i64 s.pos, .int .i64 s.mark, .slice Ak s.kills.length ck, .slice Au s.undo.length cu, .slice Ar s.redo.length cr, .string s.keys, .int .i64 s.last, .int .i64 s.line, .string s.saved] ∧
    Kd.R Kd.string 9 W base (fun _ => True) (.slice Ak s.kills.length ck) s.kills ∧ Kd.R k23 23 W base (fun _ => True) (.slice Au s.undo.length cu) s.undo ∧ Kd.R k23 23 W base (fun _ => True) (.slice Ar s.redo.length cr) s.redo := h
theorem hz_new {w W : World} {cs : Array Value} {t : TypeId} (hb : Below (w.alloc (.cells cs t)).heap.size (w.alloc (.cells cs t)) W) : W.heap[w.heap.size]? = some (.cells cs t (0, 0)) := blk_below (blk_new w _) hb
theorem hz_newd {w W : World} {cs : Array Value} {t : TypeId} (hb : Below (w.alloc (.cells cs t)).drew.heap.size (w.alloc (.cells cs t)).drew W) : W.heap[w.heap.size]? = some (.cells cs t (0, 0)) := blk_below (w := (w.alloc (.cells cs t)).drew) (blk_new w _) hb
theorem awS {w w1 W : World} (h : HBox w1 w) (hb : Below w1.heap.size w1 W) : W.cell? ⟨w.heap.size, 0, none⟩ = some (.int .i64 0) ∧ W.cell? ⟨w.heap.size, 1, none⟩ = some (.slice (some ⟨w.heap.size + 1, 0, none⟩) 2 2) ∧ Aside0 (Below w1.heap.size w1 W) := ⟨(h.below hb).c0, (h.below hb).c1, ⟨hb⟩⟩

set_option maxHeartbeats 16000000 in
set_option maxRecDepth 100000 in
theorem awake_calls (w : World) :
    Calls Try.prog 10 #[] w fun e w' => e = .returned (.bool true) ∧ Below w.heap.size w w' := by
  have hu27 := Try.underlying27
  have hu38 := Try.underlying38
  have hu23 := Try.underlying23
  obtain ⟨w1, hw1⟩ : ∃ z, z = (w.alloc (.cells #[.int .i64 0, .slice (some ⟨w.heap.size + 1, 0, none⟩) 2 2] 38)).alloc (.cells #[.string ⟨#[120]⟩, .string ⟨#[121]⟩] 9) := ⟨_, rfl⟩
  have HH := Aside0.mk (show HBox w1 w from by rw [hw1]; exact HBox.made w)
  have HW1 := Aside0.mk hw1
  clear hw1
  go_enter Try.func10, Try.ntmps10
  go_upto_region 3 with (fail)
  rw [← HW1.out]
  go_cut [2] from 11 (fun v2 wc => ∃ g, v2 = .pointer (some ⟨g, 0, none⟩) ∧ Aside0 (HBox wc w ∧ EBox wc w.heap.size g aw2))
  case first =>
    go_region_held3 (fun w' => w'.cell? ⟨w.heap.size, 0, none⟩ = some (.int .i64 0) ∧ w'.cell? ⟨w.heap.size, 1, none⟩ = some (.slice (some ⟨w.heap.size + 1, 0, none⟩) 2 2) ∧ Aside0 (Below w1.heap.size w1 w'))
      (first | (refine awS HH.out ?_; first | with_reducible exact below_set (below_set (below_set (below_set (below_set (below_set (below_set (below_set (below_set (below_set HBx.out HGZ.out) HGZ.out) HGZ.out) HGZ.out) HGZ.out) HGZ.out) HGZ.out) HGZ.out) HGZ.out) HGZ.out | exact below_alloc HBx.out _ | exact HBx.out | exact below_alloc (below_drew (Below.refl _ _)) _ | exact below_drew (Below.refl _ _)))
      (first | (go_at_call 14; refine (editor_New.calls _ _ _ _ _ _ _ _ _ _ _ rfl).mono ?_; rintro e w4 ⟨v3, v4, v5, rfl, q3, q4, q5, hb⟩; (try (have hz := blk_below hz hb)); (try (have hz := hz_newd hb; have HGZ := Aside0.mk (Nat.le_refl w1.heap.size))); have HBx : Aside0 (Below w1.heap.size w1 _) := ⟨by refine below_step ?_ hb; first | exact below_alloc HBx.out _ | exact HBx.out | exact below_alloc (below_drew (Below.refl _ _)) _ | exact below_drew (Below.refl _ _)⟩; obtain ⟨A3, c3, rfl⟩ := Kd.R_slice q3; obtain ⟨A4, c4, rfl⟩ := Kd.R_slice q4; obtain ⟨A5, c5, rfl⟩ := Kd.R_slice q5; have HVN := Aside0.mk (show EdR w4 w.heap.size aw0 (.agg #[.string ⟨#[]⟩, .int .i64 0, .int .i64 0, .slice A3 0 c3, .slice A4 0 c4, .slice A5 0 c5, .string ⟨#[]⟩, .int .i64 0, .int .i64 0, .string ⟨#[]⟩]) from ⟨A3, A4, A5, c3, c4, c5, rfl, Kd.R_mono (Kd.R_lower q3 (by refine Nat.le_trans HH.out.2.2.size ?_; first | exact (below_alloc (below_drew (Below.refl w1.heap.size w1)) _).size | exact (below_drew (Below.refl w1.heap.size w1)).size)) (fun _ _ => trivial), Kd.R_mono (Kd.R_lower q4 (by refine Nat.le_trans HH.out.2.2.size ?_; first | exact (below_alloc (below_drew (Below.refl w1.heap.size w1)) _).size | exact (below_drew (Below.refl w1.heap.size w1)).size)) (fun _ _ => trivial), Kd.R_mono (Kd.R_lower q5 (by refine Nat.le_trans HH.out.2.2.size ?_; first | exact (below_alloc (below_drew (Below.refl w1.heap.size w1)) _).size | exact (below_drew (Below.refl w1.heap.size w1)).size)) (fun _ _ => trivial)⟩); clear q3 q4 q5 hb) | (have hva_ := HVA.out; clear hva_; go_at_call 16; refine (do_callsR _ w.heap.size aw1 1 ⟨#[99]⟩ _ _ ok_aw1 (by decide) ?hv ?hs ?hh).mono ?_; (case hv => (refine HVA.out.below ?_; first | exact below_alloc (Below.refl _ _) _ | exact Below.refl _ _)); (case hs => (refine Nat.le_trans HH.out.2.2.size ?_; first | exact (below_alloc HBx.out _).size | exact HBx.out.size)); (case hh => (refine (HH.out.below ?_).hi; first | exact below_alloc HBx.out _ | exact HBx.out)); rw [aw_2]; rintro e w4 ⟨v4, rfl, hv4, hb⟩; (try (have hz := blk_below hz hb)); (try (have hz := hz_new hb; first | have HGZ := Aside0.mk HBx.out.size | have HGZ := Aside0.mk (below_drew (Below.refl w1.heap.size w1)).size)); have HBx : Aside0 (Below w1.heap.size w1 _) := ⟨by refine below_step ?_ hb; first | exact below_alloc HBx.out _ | exact HBx.out | exact below_alloc (below_drew (Below.refl _ _)) _ | exact below_drew (Below.refl _ _)⟩; obtain ⟨Ak, Au, Ar, ck, cu, cr, rfl, g2, g3, g4⟩ := hv4.opn; (try (have qz := blk_frozen hz; have r0 := (blk_cell hz 0).trans rfl; have r1 := (blk_cell hz 1).trans rfl; have r2 := (blk_cell hz 2).trans rfl; have r3 := (blk_cell hz 3).trans rfl; have r4 := (blk_cell hz 4).trans rfl; have r5 := (blk_cell hz 5).trans rfl; have r6 := (blk_cell hz 6).trans rfl; have r7 := (blk_cell hz 7).trans rfl; have r8 := (blk_cell hz 8).trans rfl; have r9 := (blk_cell hz 9).trans rfl; have HZ := Aside0.mk hz)); have G2 := Aside0.mk g2; have G3 := Aside0.mk g3; have G4 := Aside0.mk g4; clear g2 g3 g4 hv4 hb HVA) | (have hva_ := HVN.out; clear hva_; go_at_call 16; refine (do_callsR _ w.heap.size aw0 1 ⟨#[97, 98]⟩ _ _ ok_aw0 (by decide) ?hv ?hs ?hh).mono ?_; (case hv => (refine HVN.out.below ?_; first | exact below_alloc (Below.refl _ _) _ | exact Below.refl _ _)); (case hs => (refine Nat.le_trans HH.out.2.2.size ?_; first | exact (below_alloc HBx.out _).size | exact HBx.out.size)); (case hh => (refine (HH.out.below ?_).hi; first | exact below_alloc HBx.out _ | exact HBx.out)); rw [aw_1]; rintro e w4 ⟨v4, rfl, hv4, hb⟩; (try (have hz := blk_below hz hb)); (try (have hz := hz_new hb; first | have HGZ := Aside0.mk HBx.out.size | have HGZ := Aside0.mk (below_drew (Below.refl w1.heap.size w1)).size)); have HBx : Aside0 (Below w1.heap.size w1 _) := ⟨by refine below_step ?_ hb; first | exact below_alloc HBx.out _ | exact HBx.out | exact below_alloc (below_drew (Below.refl _ _)) _ | exact below_drew (Below.refl _ _)⟩; have HVA := Aside0.mk hv4; clear hv4 hb HVN) | (trace_state; fail))
    all_goals (go_wp2; go_meet)
    all_goals
      case rel =>
        first
        | (have hzz := HZ.out; exact ⟨_, rfl, ⟨⟨HH.out.below (fillW_below HBx.out HGZ.out), Ak, Au, Ar, ck, cu, cr, fillW_blk HZ.out, fillW_R E_string (by decide) G2.out HZ.out, fillW_R E_k23 (by decide) G3.out HZ.out, fillW_R E_k23 (by decide) G4.out HZ.out⟩⟩⟩)
        | exact ⟨_, rfl, ⟨⟨HH.out.below (below_alloc HBx.out _), Ak, Au, Ar, ck, cu, cr, blk_new _ _, Kd.R_alloc G2.out _, Kd.R_alloc G3.out _, Kd.R_alloc G4.out _⟩⟩⟩
  case rest =>
    obtain ⟨ge, rfl, hA⟩ := hcut
    have HH0 := Aside0.mk hA.out.1
    have HEe := Aside0.mk hA.out.2
    clear hA
    obtain ⟨Wa, hWa⟩ : ∃ z, z = wc := ⟨_, rfl⟩
    rw [← hWa] at HH0 HEe ⊢
    clear hWa
    have h0 := HH0.out.c0
    have h1 := HH0.out.c1
    obtain ⟨Ake, Aue, Are, cke, cue, cre, hbe, hke, hue, hre⟩ := HEe.out
    have e0 := (blk_cell hbe 0).trans rfl
    have e1 := (blk_cell hbe 1).trans rfl
    have e2 := (blk_cell hbe 2).trans rfl
    have e3 := (blk_cell hbe 3).trans rfl
    have e4 := (blk_cell hbe 4).trans rfl
    have e5 := (blk_cell hbe 5).trans rfl
    have e6 := (blk_cell hbe 6).trans rfl
    have e7 := (blk_cell hbe 7).trans rfl
    have e8 := (blk_cell hbe 8).trans rfl
    have e9 := (blk_cell hbe 9).trans rfl
    have hsz : w.heap.size ≤ Wa.heap.size := HH0.out.2.2.size
    have hv : EdR Wa w.heap.size aw2 (.agg #[.string aw2.text, .int .i64 aw2.pos, .int .i64 aw2.mark, .slice Ake aw2.kills.length cke, .slice Aue aw2.undo.length cue, .slice Are aw2.redo.length cre, .string aw2.keys, .int .i64 aw2.last, .int .i64 aw2.line, .string aw2.saved]) := ⟨Ake, Aue, Are, cke, cue, cre, rfl, hke, hue, hre⟩
    have HV := Aside0.mk hv
    have HSZ := Aside0.mk hsz
    clear hv hsz hke hue hre
    go_wp2_with (fail)
    refine (do_callsR Wa w.heap.size aw2 17 ⟨#[]⟩ _ _ ok_aw2 (by decide) HV.out HSZ.out HH0.out.hi).mono ?_
    rw [aw_u]
    rintro e w4 ⟨v4, rfl, hv4, hb⟩
    obtain ⟨Ak, Au, Ar, ck, cu, cr, rfl, g2, g3, g4⟩ := hv4.opn
    obtain ⟨Wb, hW⟩ : ∃ z, z = w4.alloc (.cells #[.string awu.text, .int .i64 awu.pos, .int .i64 awu.mark, .slice Ak awu.kills.length ck, .slice Au awu.undo.length cu, .slice Ar awu.redo.length cr, .string awu.keys, .int .i64 awu.last, .int .i64 awu.line, .string awu.saved] 27) := ⟨_, rfl⟩
    have hb2 : Below Wa.heap.size Wa Wb := by rw [hW]; exact below_alloc hb _
    have HEu := Aside0.mk (show EBox Wb w.heap.size w4.heap.size awu from by rw [hW]; exact ⟨Ak, Au, Ar, ck, cu, cr, blk_new _ _, Kd.R_alloc g2 _, Kd.R_alloc g3 _, Kd.R_alloc g4 _⟩)
    have HHn := Aside0.mk (HH0.out.below hb2)
    have HEen := Aside0.mk (HEe.out.below hb2)
    have HW := Aside0.mk hW
    clear hv4 hb hb2 g2 g3 g4 hW HV HSZ  HH0 HEe
    have HH0 := HHn
    clear HHn
    have HEe := HEen
    clear HEen
    clear h0 h1 hbe e0 e1 e2 e3 e4 e5 e6 e7 e8 e9
    go_upto_region 5 with (fail)
    rw [← HW.out]
    clear HW
    obtain ⟨gu, hgu⟩ : ∃ z, z = w4.heap.size := ⟨_, rfl⟩
    rw [← hgu] at HEu ⊢
    clear hgu
    have h0 := HH0.out.c0
    have h1 := HH0.out.c1
    obtain ⟨Aku, Auu, Aru, cku, cuu, cru, hbu, hku, huu, hru⟩ := HEu.out
    have u0 := (blk_cell hbu 0).trans rfl
    have u1 := (blk_cell hbu 1).trans rfl
    have u2 := (blk_cell hbu 2).trans rfl
    have u3 := (blk_cell hbu 3).trans rfl
    have u4 := (blk_cell hbu 4).trans rfl
    have u5 := (blk_cell hbu 5).trans rfl
    have u6 := (blk_cell hbu 6).trans rfl
    have u7 := (blk_cell hbu 7).trans rfl
    have u8 := (blk_cell hbu 8).trans rfl
    have u9 := (blk_cell hbu 9).trans rfl
    have hsz : w.heap.size ≤ Wb.heap.size := HH0.out.2.2.size
    have hv : EdR Wb w.heap.size awu (.agg #[.string awu.text, .int .i64 awu.pos, .int .i64 awu.mark, .slice Aku awu.kills.length cku, .slice Auu awu.undo.length cuu, .slice Aru awu.redo.length cru, .string awu.keys, .int .i64 awu.last, .int .i64 awu.line, .string awu.saved]) := ⟨Aku, Auu, Aru, cku, cuu, cru, rfl, hku, huu, hru⟩
    have HV := Aside0.mk hv
    have HSZ := Aside0.mk hsz
    clear hv hsz hku huu hru
    go_wp2_with (fail)
    refine (do_callsR Wb w.heap.size awu 18 ⟨#[]⟩ _ _ ok_awu (by decide) HV.out HSZ.out HH0.out.hi).mono ?_
    rw [aw_r]
    rintro e w4 ⟨v4, rfl, hv4, hb⟩
    obtain ⟨Ak, Au, Ar, ck, cu, cr, rfl, g2, g3, g4⟩ := hv4.opn
    obtain ⟨Wc, hW⟩ : ∃ z, z = w4.alloc (.cells #[.string awr.text, .int .i64 awr.pos, .int .i64 awr.mark, .slice Ak awr.kills.length ck, .slice Au awr.undo.length cu, .slice Ar awr.redo.length cr, .string awr.keys, .int .i64 awr.last, .int .i64 awr.line, .string awr.saved] 27) := ⟨_, rfl⟩
    have hb2 : Below Wb.heap.size Wb Wc := by rw [hW]; exact below_alloc hb _
    have HEr := Aside0.mk (show EBox Wc w.heap.size w4.heap.size awr from by rw [hW]; exact ⟨Ak, Au, Ar, ck, cu, cr, blk_new _ _, Kd.R_alloc g2 _, Kd.R_alloc g3 _, Kd.R_alloc g4 _⟩)
    have HHn := Aside0.mk (HH0.out.below hb2)
    have HEen := Aside0.mk (HEe.out.below hb2)
    have HEun := Aside0.mk (HEu.out.below hb2)
    have HW := Aside0.mk hW
    clear hv4 hb hb2 g2 g3 g4 hW HV HSZ  HH0 HEe HEu
    have HH0 := HHn
    clear HHn
    have HEe := HEen
    clear HEen
    have HEu := HEun
    clear HEun
    clear h0 h1 hbu u0 u1 u2 u3 u4 u5 u6 u7 u8 u9
    go_upto_region 6 with (fail)
    rw [← HW.out]
    clear HW
    obtain ⟨gr, hgr⟩ : ∃ z, z = w4.heap.size := ⟨_, rfl⟩
    rw [← hgr] at HEr ⊢
    clear hgr
    have h0 := HH0.out.c0
    have h1 := HH0.out.c1
    obtain ⟨Ake, Aue, Are, cke, cue, cre, hbe, hke, hue, hre⟩ := HEe.out
    have e0 := (blk_cell hbe 0).trans rfl
    have e1 := (blk_cell hbe 1).trans rfl
    have e2 := (blk_cell hbe 2).trans rfl
    have e3 := (blk_cell hbe 3).trans rfl
    have e4 := (blk_cell hbe 4).trans rfl
    have e5 := (blk_cell hbe 5).trans rfl
    have e6 := (blk_cell hbe 6).trans rfl
    have e7 := (blk_cell hbe 7).trans rfl
    have e8 := (blk_cell hbe 8).trans rfl
    have e9 := (blk_cell hbe 9).trans rfl
    have hsz : w.heap.size ≤ Wc.heap.size := HH0.out.2.2.size
    have hv : EdR Wc w.heap.size aw2 (.agg #[.string aw2.text, .int .i64 aw2.pos, .int .i64 aw2.mark, .slice Ake aw2.kills.length cke, .slice Aue aw2.undo.length cue, .slice Are aw2.redo.length cre, .string aw2.keys, .int .i64 aw2.last, .int .i64 aw2.line, .string aw2.saved]) := ⟨Ake, Aue, Are, cke, cue, cre, rfl, hke, hue, hre⟩
    have hbl : Below Wc.heap.size Wc (Wc.alloc (.cells #[.string ⟨#[113]⟩, .int .i64 12] 46)) := below_alloc (Below.refl _ _) _
    have HL := Aside0.mk (C_of_R (lit_bind Wc ⟨⟨#[113]⟩, 12⟩ (Nat.le_refl _)))
    have HV := Aside0.mk (hv.below hbl).ed
    have HSZ := Aside0.mk hsz
    have HHb := Aside0.mk (HH0.out.below hbl)
    have h0b := HHb.out.c0
    have h1b := HHb.out.c1
    have hlt := blk_lt HH0.out.1
    have hlt2 : ¬ w.heap.size = Wc.heap.size := by omega
    clear hlt
    have HBL := Aside0.mk hbl
    clear hv hsz hke hue hre hbl
    go_wp2_with (fail)
    refine (key_act (Wc.alloc (.cells #[.string ⟨#[113]⟩, .int .i64 12] 46)) aw2 113 12 0 9 [⟨⟨#[113]⟩, 12⟩] _ _ _ 1 ok_aw2 (by decide) (by decide) (by decide) HV.out HHb.out.hi HL.out (Nat.le_refl _) aw_f (by decide) (by decide) (by decide)).mono ?_
    rw [aw_k]
    rintro e w4 ⟨v4, rfl, hv4, hb⟩
    clear h0b h1b hlt2
    have hv4 := hv4.lower (b := w.heap.size) (Nat.le_trans HSZ.out HBL.out.size)
    have hb := below_step HBL.out hb
    obtain ⟨Ak, Au, Ar, ck, cu, cr, rfl, g2, g3, g4⟩ := hv4.opn
    obtain ⟨Wd, hW⟩ : ∃ z, z = w4.alloc (.cells #[.string awk.text, .int .i64 awk.pos, .int .i64 awk.mark, .slice Ak awk.kills.length ck, .slice Au awk.undo.length cu, .slice Ar awk.redo.length cr, .string awk.keys, .int .i64 awk.last, .int .i64 awk.line, .string awk.saved] 27) := ⟨_, rfl⟩
    have hb2 : Below Wc.heap.size Wc Wd := by rw [hW]; exact below_alloc hb _
    have HEk := Aside0.mk (show EBox Wd w.heap.size w4.heap.size awk from by rw [hW]; exact ⟨Ak, Au, Ar, ck, cu, cr, blk_new _ _, Kd.R_alloc g2 _, Kd.R_alloc g3 _, Kd.R_alloc g4 _⟩)
    have HHn := Aside0.mk (HH0.out.below hb2)
    have HEen := Aside0.mk (HEe.out.below hb2)
    have HEun := Aside0.mk (HEu.out.below hb2)
    have HErn := Aside0.mk (HEr.out.below hb2)
    have HW := Aside0.mk hW
    clear hv4 hb hb2 g2 g3 g4 hW HV HSZ HL HHb HBL HH0 HEe HEu HEr
    have HH0 := HHn
    clear HHn
    have HEe := HEen
    clear HEen
    have HEu := HEun
    clear HEun
    have HEr := HErn
    clear HErn
    clear h0 h1 hbe e0 e1 e2 e3 e4 e5 e6 e7 e8 e9
    go_upto_region 7 with (fail)
    rw [← HW.out]
    clear HW
    obtain ⟨gk, hgk⟩ : ∃ z, z = w4.heap.size := ⟨_, rfl⟩
    rw [← hgk] at HEk ⊢
    clear hgk
    have h0 := HH0.out.c0
    have h1 := HH0.out.c1
    obtain ⟨Ake, Aue, Are, cke, cue, cre, hbe, hke, hue, hre⟩ := HEe.out
    have e0 := (blk_cell hbe 0).trans rfl
    have e1 := (blk_cell hbe 1).trans rfl
    have e2 := (blk_cell hbe 2).trans rfl
    have e3 := (blk_cell hbe 3).trans rfl
    have e4 := (blk_cell hbe 4).trans rfl
    have e5 := (blk_cell hbe 5).trans rfl
    have e6 := (blk_cell hbe 6).trans rfl
    have e7 := (blk_cell hbe 7).trans rfl
    have e8 := (blk_cell hbe 8).trans rfl
    have e9 := (blk_cell hbe 9).trans rfl
    have hsz : w.heap.size ≤ Wd.heap.size := HH0.out.2.2.size
    have hv : EdR Wd w.heap.size aw2 (.agg #[.string aw2.text, .int .i64 aw2.pos, .int .i64 aw2.mark, .slice Ake aw2.kills.length cke, .slice Aue aw2.undo.length cue, .slice Are aw2.redo.length cre, .string aw2.keys, .int .i64 aw2.last, .int .i64 aw2.line, .string aw2.saved]) := ⟨Ake, Aue, Are, cke, cue, cre, rfl, hke, hue, hre⟩
    have HV := Aside0.mk hv
    have HSZ := Aside0.mk hsz
    clear hv hsz hke hue hre
    go_wp2_with (fail)
    refine (do_callsR Wd w.heap.size aw2 20 ⟨#[]⟩ _ _ ok_aw2 (by decide) HV.out HSZ.out HH0.out.hi).mono ?_
    rw [aw_up]
    rintro e w4 ⟨v4, rfl, hv4, hb⟩
    obtain ⟨Ak, Au, Ar, ck, cu, cr, rfl, g2, g3, g4⟩ := hv4.opn
    obtain ⟨We, hW⟩ : ∃ z, z = w4.alloc (.cells #[.string awup.text, .int .i64 awup.pos, .int .i64 awup.mark, .slice Ak awup.kills.length ck, .slice Au awup.undo.length cu, .slice Ar awup.redo.length cr, .string awup.keys, .int .i64 awup.last, .int .i64 awup.line, .string awup.saved] 27) := ⟨_, rfl⟩
    have hb2 : Below Wd.heap.size Wd We := by rw [hW]; exact below_alloc hb _
    have HEp := Aside0.mk (show EBox We w.heap.size w4.heap.size awup from by rw [hW]; exact ⟨Ak, Au, Ar, ck, cu, cr, blk_new _ _, Kd.R_alloc g2 _, Kd.R_alloc g3 _, Kd.R_alloc g4 _⟩)
    have HHn := Aside0.mk (HH0.out.below hb2)
    have HEen := Aside0.mk (HEe.out.below hb2)
    have HEun := Aside0.mk (HEu.out.below hb2)
    have HErn := Aside0.mk (HEr.out.below hb2)
    have HEkn := Aside0.mk (HEk.out.below hb2)
    have HW := Aside0.mk hW
    clear hv4 hb hb2 g2 g3 g4 hW HV HSZ  HH0 HEe HEu HEr HEk
    have HH0 := HHn
    clear HHn
    have HEe := HEen
    clear HEen
    have HEu := HEun
    clear HEun
    have HEr := HErn
    clear HErn
    have HEk := HEkn
    clear HEkn
    clear h0 h1 hbe e0 e1 e2 e3 e4 e5 e6 e7 e8 e9
    go_upto_region 8 with (fail)
    rw [← HW.out]
    clear HW
    obtain ⟨gp, hgp⟩ : ∃ z, z = w4.heap.size := ⟨_, rfl⟩
    rw [← hgp] at HEp ⊢
    clear hgp
    have h0 := HH0.out.c0
    have h1 := HH0.out.c1
    obtain ⟨Akp, Aup, Arp, ckp, cup, crp, hbp, hkp, hup, hrp⟩ := HEp.out
    have p0 := (blk_cell hbp 0).trans rfl
    have p1 := (blk_cell hbp 1).trans rfl
    have p2 := (blk_cell hbp 2).trans rfl
    have p3 := (blk_cell hbp 3).trans rfl
    have p4 := (blk_cell hbp 4).trans rfl
    have p5 := (blk_cell hbp 5).trans rfl
    have p6 := (blk_cell hbp 6).trans rfl
    have p7 := (blk_cell hbp 7).trans rfl
    have p8 := (blk_cell hbp 8).trans rfl
    have p9 := (blk_cell hbp 9).trans rfl
    have hsz : w.heap.size ≤ We.heap.size := HH0.out.2.2.size
    have hv : EdR We w.heap.size awup (.agg #[.string awup.text, .int .i64 awup.pos, .int .i64 awup.mark, .slice Akp awup.kills.length ckp, .slice Aup awup.undo.length cup, .slice Arp awup.redo.length crp, .string awup.keys, .int .i64 awup.last, .int .i64 awup.line, .string awup.saved]) := ⟨Akp, Aup, Arp, ckp, cup, crp, rfl, hkp, hup, hrp⟩
    have HV := Aside0.mk hv
    have HSZ := Aside0.mk hsz
    clear hv hsz hkp hup hrp
    go_wp2_with (fail)
    refine (do_callsR We w.heap.size awup 21 ⟨#[]⟩ _ _ ok_awup (by decide) HV.out HSZ.out HH0.out.hi).mono ?_
    rw [aw_dn]
    rintro e w4 ⟨v4, rfl, hv4, hb⟩
    obtain ⟨Ak, Au, Ar, ck, cu, cr, rfl, g2, g3, g4⟩ := hv4.opn
    obtain ⟨Wf, hW⟩ : ∃ z, z = w4.alloc (.cells #[.string awdn.text, .int .i64 awdn.pos, .int .i64 awdn.mark, .slice Ak awdn.kills.length ck, .slice Au awdn.undo.length cu, .slice Ar awdn.redo.length cr, .string awdn.keys, .int .i64 awdn.last, .int .i64 awdn.line, .string awdn.saved] 27) := ⟨_, rfl⟩
    have hb2 : Below We.heap.size We Wf := by rw [hW]; exact below_alloc hb _
    have HEd := Aside0.mk (show EBox Wf w.heap.size w4.heap.size awdn from by rw [hW]; exact ⟨Ak, Au, Ar, ck, cu, cr, blk_new _ _, Kd.R_alloc g2 _, Kd.R_alloc g3 _, Kd.R_alloc g4 _⟩)
    have HHn := Aside0.mk (HH0.out.below hb2)
    have HEen := Aside0.mk (HEe.out.below hb2)
    have HEun := Aside0.mk (HEu.out.below hb2)
    have HErn := Aside0.mk (HEr.out.below hb2)
    have HEkn := Aside0.mk (HEk.out.below hb2)
    have HEpn := Aside0.mk (HEp.out.below hb2)
    have HW := Aside0.mk hW
    clear hv4 hb hb2 g2 g3 g4 hW HV HSZ  HH0 HEe HEu HEr HEk HEp
    have HH0 := HHn
    clear HHn
    have HEe := HEen
    clear HEen
    have HEu := HEun
    clear HEun
    have HEr := HErn
    clear HErn
    have HEk := HEkn
    clear HEkn
    have HEp := HEpn
    clear HEpn
    clear h0 h1 hbp p0 p1 p2 p3 p4 p5 p6 p7 p8 p9
    go_upto_region 9 with (fail)
    rw [← HW.out]
    clear HW
    obtain ⟨gd, hgd⟩ : ∃ z, z = w4.heap.size := ⟨_, rfl⟩
    rw [← hgd] at HEd ⊢
    clear hgd
    have hbw : Below w.heap.size w Wf := HH0.out.2.2
    have HBW := Aside0.mk hbw
    clear hbw
    obtain ⟨Ake, Aue, Are, cke, cue, cre, hbe, hke, hue, hre⟩ := HEe.out
    have e2 := (blk_cell hbe 2).trans rfl
    have e3 := (blk_cell hbe 3).trans rfl
    have e4 := (blk_cell hbe 4).trans rfl
    have e5 := (blk_cell hbe 5).trans rfl
    have e6 := (blk_cell hbe 6).trans rfl
    have e7 := (blk_cell hbe 7).trans rfl
    have e8 := (blk_cell hbe 8).trans rfl
    have e9 := (blk_cell hbe 9).trans rfl
    have e0 : Wf.cell? ⟨ge, 0, none⟩ = some (.string ⟨#[97, 98, 99]⟩) := (blk_cell hbe 0).trans rfl
    have e1 : Wf.cell? ⟨ge, 1, none⟩ = some (.int .i64 3) := (blk_cell hbe 1).trans rfl
    obtain ⟨Aku, Auu, Aru, cku, cuu, cru, hbu, hku, huu, hru⟩ := HEu.out
    have u0 : Wf.cell? ⟨gu, 0, none⟩ = some (.string ⟨#[]⟩) := (blk_cell hbu 0).trans rfl
    obtain ⟨Akr, Aur, Arr, ckr, cur, crr, hbr, hkr, hur, hrr⟩ := HEr.out
    have r0 : Wf.cell? ⟨gr, 0, none⟩ = some (.string ⟨#[97, 98, 99]⟩) := (blk_cell hbr 0).trans rfl
    have r1 : Wf.cell? ⟨gr, 1, none⟩ = some (.int .i64 3) := (blk_cell hbr 1).trans rfl
    obtain ⟨Akp, Aup, Arp, ckp, cup, crp, hbp, hkp, hup, hrp⟩ := HEp.out
    have p0 : Wf.cell? ⟨gp, 0, none⟩ = some (.string ⟨#[121]⟩) := (blk_cell hbp 0).trans rfl
    have p8 : Wf.cell? ⟨gp, 8, none⟩ = some (.int .i64 1) := (blk_cell hbp 8).trans rfl
    obtain ⟨Akd, Aud, Ard, ckd, cud, crd, hbd, hkd, hud, hrd⟩ := HEd.out
    have d0 : Wf.cell? ⟨gd, 0, none⟩ = some (.string ⟨#[97, 98, 99]⟩) := (blk_cell hbd 0).trans rfl
    have d8 : Wf.cell? ⟨gd, 8, none⟩ = some (.int .i64 0) := (blk_cell hbd 8).trans rfl
    obtain ⟨Akk, Auk, Ark, ckk, cuk, crk, hbk, hkk, huk, hrk⟩ := HEk.out
    obtain ⟨gq, n2, he, _⟩ := Kd.R_form hkk (by decide)
    injection he with he1 he2 he3
    subst he1
    have k0 : Wf.cell? ⟨gk, 0, none⟩ = some (.string ⟨#[]⟩) := (blk_cell hbk 0).trans rfl
    have k3 : Wf.cell? ⟨gk, 3, none⟩ = some (.slice (some ⟨gq, 0, none⟩) 1 ckk) := (blk_cell hbk 3).trans rfl
    have kq : Wf.cell? ⟨gq, 0, none⟩ = some (.string ⟨#[97, 98, 99]⟩) := (last_cell hkk (by decide)).1
    have HKe := Aside0.mk hke
    have HUe := Aside0.mk hue
    have HRe := Aside0.mk hre
    clear hbe hbu hbr hbp hbd hbk hke hue hre hku huu hru hkr hur hrr hkp hup hrp hkd hud hrd hkk huk hrk he2 he3
    go_wp2_with (fail)
    refine (pval_good Wf aw2 Ake Aue Are cke cue cre (C_of_R HKe.out) (Kd.R_reads' HKe.out).2.1 (C_of_R HUe.out) (Kd.R_reads' HUe.out).2.1 (C_of_R HRe.out) (Kd.R_reads' HRe.out).2.1 good_aw2).mono ?_
    rintro e w5 ⟨rfl, hb5⟩
    have HB5 := Aside0.mk (below_step HBW.out hb5)
    clear hb5
    go_wp2_with (fail)
    refine (pval_mark w5 ⟨⟨#[]⟩, 0, 1, [], [], [], ⟨#[]⟩, 0, 0, ⟨#[]⟩, 0, []⟩ none none none 0 0 0 (C_of_R (Kd.R_nil Kd.string 9 w5 0 (fun _ => True))) (Nat.le_refl _) (C_of_R (Kd.R_nil k23 23 w5 0 (fun _ => True))) (Nat.le_refl _) (C_of_R (Kd.R_nil k23 23 w5 0 (fun _ => True))) (Nat.le_refl _) (by decide) (by decide) (by decide) (by decide) (by decide) (by decide) (by decide) (by decide) (by decide) (by decide) (by decide) (by decide) (by decide) (by decide) (by decide)).mono ?_
    rintro e w6 ⟨rfl, hb6⟩
    have HB6 := Aside0.mk (below_step HB5.out hb6)
    clear hb6
    go_wp2_with (fail)
    go_ret
    exact ⟨rfl, HB6.out⟩
end Go.Proofs.Ytlbbjdggebgabaa.P
end

section
/- The statements' own types: an editor, a history, a call, as values. -/
namespace Go.Proofs.Ytlbbjdggebgabaa.P
open Go.RowKit Go.Proofs.YtlbbjdggebgabaaW.PrintWords Go.Proofs.YtlbbjdggebgabaaW.PrintLast Go.Proofs.YtlbbjdggebgabaaW.PrintMore
set_option linter.unusedVariables false
set_option linter.unusedSimpArgs false

structure S27 where
  f0 : S23
  f1 : Int
  f2 : List ByteArray
  f3 : List S23
  f4 : List S23
  f5 : ByteArray
  f6 : Int
  f7 : Int
  f8 : ByteArray
structure S38 where
  f0 : Int
  f1 : List ByteArray
structure S36 where
  f0 : Int
  f1 : ByteArray
def k27 : Kd S27 := Kd.iso (Kd.pair k23 (Kd.pair (Kd.int .i64) (Kd.pair (Kd.slice 9 Kd.string) (Kd.pair (Kd.slice 23 k23) (Kd.pair (Kd.slice 23 k23) (Kd.pair Kd.string (Kd.pair (Kd.int .i64) (Kd.pair (Kd.int .i64) Kd.string)))))))) (fun x : S27 => (x.f0, x.f1, x.f2, x.f3, x.f4, x.f5, x.f6, x.f7, x.f8))
def k38 : Kd S38 := Kd.iso (Kd.pair (Kd.int .i64) (Kd.slice 9 Kd.string)) (fun x : S38 => (x.f0, x.f1))
def k36 : Kd S36 := Kd.iso (Kd.pair (Kd.int .i64) Kd.string) (fun x : S36 => (x.f0, x.f1))
theorem k36_open {w : World} {x : S36} {cs : List Value} (h : k36.K w x cs) : cs = [.int .i64 x.f0, .string x.f1] := by
  obtain ⟨_, _, rfl, rfl, rfl⟩ := h
  exact rfl
theorem k38_open {w : World} {x : S38} {cs : List Value} (h : k38.K w x cs) : ∃ (A : Option Addr) (c : Nat), cs = [.int .i64 x.f0, .slice A x.f1.length c] ∧ x.f1.length ≤ c ∧ Kd.C Kd.string w A x.f1.length x.f1 := by
  obtain ⟨_, _, rfl, rfl, A, c, rfl, h1, h2⟩ := h
  exact ⟨A, c, rfl, h1, h2⟩
theorem k27_open {w : World} {x : S27} {cs : List Value} (h : k27.K w x cs) : ∃ (A3 : Option Addr) (c3 : Nat) (A4 : Option Addr) (c4 : Nat) (A5 : Option Addr) (c5 : Nat), cs = [.string x.f0.f0, .int .i64 x.f0.f1, .int .i64 x.f1, .slice A3 x.f2.length c3, .slice A4 x.f3.length c4, .slice A5 x.f4.length c5, .string x.f5, .int .i64 x.f6, .int .i64 x.f7, .string x.f8] ∧
    x.f2.length ≤ c3 ∧ Kd.C Kd.string w A3 x.f2.length x.f2 ∧ x.f3.length ≤ c4 ∧ Kd.C k23 w A4 x.f3.length x.f3 ∧ x.f4.length ≤ c5 ∧ Kd.C k23 w A5 x.f4.length x.f4 := by
  obtain ⟨_, _, rfl, ⟨_, _, rfl, rfl, rfl⟩, _, _, rfl, rfl, _, _, rfl, ⟨A3, c3, rfl, l3, g3⟩, _, _, rfl, ⟨A4, c4, rfl, l4, g4⟩, _, _, rfl, ⟨A5, c5, rfl, l5, g5⟩, _, _, rfl, rfl, _, _, rfl, rfl, _, _, rfl, rfl, rfl⟩ := h
  exact ⟨A3, c3, A4, c4, A5, c5, rfl, l3, g3, l4, g4, l5, g5⟩
end Go.Proofs.Ytlbbjdggebgabaa.P
end

section
namespace Go.Proofs.Ytlbbjdggebgabaa.P
open Go.RowKit Go.Proofs.YtlbbjdggebgabaaW.PrintWords Go.Proofs.YtlbbjdggebgabaaW.PrintLast Go.Proofs.YtlbbjdggebgabaaW.PrintMore
attribute [local go_sem] max2_int min2_int max_two min_two max_three min_three max_four min_four   -- for this text's walks alone
set_option linter.unusedVariables false
set_option linter.unusedSimpArgs false

def jobshellref46_push.f (l0 : List (S23)) (a1_0 : ByteArray) (a1_1 : Int) : Option ((List (S23))) := if ([] : List (S23)).length + l0.length < 5864062014805 then ((some (([] : List (S23)) ++ l0 : List (S23))).bind fun y361 => (if y361.length < 5864062014805 then ((some (y361 ++ [(⟨a1_0, a1_1⟩ : S23)] : List (S23))).bind fun y364 => (if (y364.length : Int) > 64 then (if 1 ≤ (y364.length : Int) then (some (y364.drop (1 : Int).toNat)) else (none)) else (some y364))) else (none))) else (none)
set_option maxHeartbeats 8000000 in
set_option maxRecDepth 100000 in
theorem jobshellref46_push.calls (A0 : Option Addr) (c0 : Nat) (l0 : List (S23)) (a1_0 : ByteArray) (a1_1 : Int) (r : List (S23)) (w : World) (hr0 : Kd.C k23 w A0 l0.length l0) (hc0 : l0.length ≤ c0) (h : jobshellref46_push.f l0 a1_0 a1_1 = some r) :
    Calls Try.prog 66 #[.slice A0 l0.length c0, .agg #[.string a1_0, .int .i64 a1_1]] w fun e w' => ∃ v0_ : Value, e = .returned (v0_) ∧ Kd.Q k23 23 w' w.heap.size (fun _ => True) v0_ r ∧ Below w.heap.size w w' := by
  have hu23 := Try.underlying23
  have HR0 := Aside0.mk hr0
  have HC0 := Aside0.mk hc0
  clear hr0 hc0
  have HB := Aside0.mk (Below.refl w.heap.size w)
  have H : (if ([] : List (S23)).length + l0.length < 5864062014805 then ((some (([] : List (S23)) ++ l0 : List (S23))).bind fun y361 => (if y361.length < 5864062014805 then ((some (y361 ++ [(⟨a1_0, a1_1⟩ : S23)] : List (S23))).bind fun y364 => (if (y364.length : Int) > 64 then (if 1 ≤ (y364.length : Int) then (some (y364.drop (1 : Int).toNat)) else (none)) else (some y364))) else (none))) else (none)) = some r := h
  clear h
  by_cases c3 : ([] : List (S23)).length + l0.length < 5864062014805
  · rw [if_pos c3] at H
    have LMc3 := Aside0.mk c3
    clear c3
    obtain ⟨y361, hy361⟩ : ∃ y_ : List (S23), y_ = (([] : List (S23)) ++ l0) := ⟨_, rfl⟩
    replace H : (if y361.length < 5864062014805 then ((some (y361 ++ [(⟨a1_0, a1_1⟩ : S23)] : List (S23))).bind fun y364 => (if (y364.length : Int) > 64 then (if 1 ≤ (y364.length : Int) then (some (y364.drop (1 : Int).toNat)) else (none)) else (some y364))) else (none)) = some r := by first | (rw [hy361]; with_reducible exact H) | (have H2_ := (Option.bind_some _ _).symm.trans H; rw [hy361]; with_reducible exact H2_) | (have H2_ := (Option.bind_some _ _).symm.trans H; with_reducible exact H2_) | with_reducible exact H | (rw [hy361]; exact H) | exact H
    have Ny361 := Aside0.mk hy361
    clear hy361
    by_cases c4 : y361.length < 5864062014805
    · rw [if_pos c4] at H
      have LMc4 := Aside0.mk c4
      clear c4
      obtain ⟨y364, hy364⟩ : ∃ y_ : List (S23), y_ = (y361 ++ [(⟨a1_0, a1_1⟩ : S23)]) := ⟨_, rfl⟩
      replace H : (if (y364.length : Int) > 64 then (if 1 ≤ (y364.length : Int) then (some (y364.drop (1 : Int).toNat)) else (none)) else (some y364)) = some r := by first | (rw [hy364]; with_reducible exact H) | (have H2_ := (Option.bind_some _ _).symm.trans H; rw [hy364]; with_reducible exact H2_) | (have H2_ := (Option.bind_some _ _).symm.trans H; with_reducible exact H2_) | with_reducible exact H | (rw [hy364]; exact H) | exact H
      have Ny364 := Aside0.mk hy364
      clear hy364
      by_cases c5 : (y364.length : Int) > 64
      · rw [if_pos c5] at H
        have c5b0 : decide (64 < (y364.length : Int)) = true := decide_eq_true c5
        have c5b1 : decide (64 < y364.length) = true := decide_eq_true (by omega)
        clear c5
        by_cases c6 : 1 ≤ (y364.length : Int)
        · rw [if_pos c6] at H
          have c6b0 := eq_true c6
          have c6b1 : decide (1 ≤ (y364.length : Int)) = true := decide_eq_true c6
          clear c6
          obtain ⟨y367, hy367⟩ : ∃ y_ : List (S23), y_ = (y364.drop (1 : Int).toNat) := ⟨_, rfl⟩
          replace H : (some y367) = some r := by first | (rw [hy367]; with_reducible exact H) | (have H2_ := (Option.bind_some _ _).symm.trans H; rw [hy367]; with_reducible exact H2_) | (have H2_ := (Option.bind_some _ _).symm.trans H; with_reducible exact H2_) | with_reducible exact H | (rw [hy367]; exact H) | exact H
          have Ny367 := Aside0.mk hy367
          clear hy367
          obtain rfl := Option.some.inj H
          go_enter Try.func66, Try.ntmps66
          go_wp2_with (first | ((with_reducible refine gate_dst (N := 3) rfl ?_); refine box_event ?hg (N := 3) ?hd (cs := #[.string a1_0, .int .i64 a1_1]) (t := 23) ?hr ?_; (case hd => rfl); (case hg => rfl); (case hr => first | (go_simp; done) | (go_simp; rfl)); intro gb360 hg w7 hbox hb; have n0_ := Aside0.mk (below_step (by repeat (first | (with_reducible first | exact HB.out | apply below_alloc | apply pw_below_drewN | apply below_drew1) | exact HB.out)) hb); have n1_ := Aside0.mk (hbox); have n2_ := Aside0.mk ((by rw [hg]; exact (below_size (by repeat (first | (with_reducible first | exact HB.out | apply below_alloc | apply pw_below_drewN | apply below_drew1) | exact HB.out))) : w.heap.size ≤ gb360)); have n3_ := Aside0.mk ((by rw [hg]; exact (below_size (by repeat (first | (with_reducible first | exact HB.out | apply below_alloc | apply pw_below_drewN | apply below_drew1) | exact HB.out))) : w.heap.size ≤ gb360)); clear HB; have HB := n0_; have BK360 := n1_; have GW360 := n2_; have GE360 := n3_; clear n0_ n1_ n2_ n3_; clear hb hbox hg) | ((with_reducible refine gate_builtin (b := .append) (xs := #[.tmp 6, .tmp 7]) rfl ?_); at_builtin; refine Kd.R_append_rows k23 (w0 := w) w.heap.size rfl (.tmp 6) (.tmp 7) 25 23 (.agg #[(.string ⟨#[]⟩), (.int .i64 0)]) 24 rfl Try.underlying25 info23 rfl (by decide) (by omega) (.slice none 0 0) ([] : List (S23)) l0 _ _ _ (fun k_ => k_ ≠ gb360) (fun _ => False) rfl rfl ?aO ?aR (fun _ _ h => h) (fun _ h => h.elim) ?aF ?aB ?aS ?aL ?_; (case aR => repeat (first | exact (Kd.C_below HR0.out HB.out) | (with_reducible refine Kd.C_alloc ?_ _) | (with_reducible refine Kd.C_drewN ?_ _) | (with_reducible refine Kd.C_drew ?_))); (case aB => exact (by repeat (first | (with_reducible first | exact HB.out | apply below_alloc | apply pw_below_drewN | apply below_drew1 | refine below_set ?_ GE360.out) | exact HB.out))); (case aF => exact (fun k_ hk => Kd.freshB (g := gb360) (o := .cells #[.string a1_0, .int .i64 a1_1] 23 (0, 0)) (by (with_reducible repeat (first | refine blk_drewN ?_ _ | refine blk_drew ?_ | refine blk_alloc ?_ _)); exact BK360.out) k_ hk)); (case aO => exact ((Kd.R_nil _ _ _ _ (fun k_ => k_ ≠ gb360)))); (case aS => exact (below_size (by repeat (first | (with_reducible first | exact HB.out | apply below_alloc | apply pw_below_drewN | apply below_drew1 | refine below_set ?_ GE360.out) | exact HB.out)))); (case aL => have := LMc3.out; omega); intro v362 w8 ho hb hg hat; rw [← Ny361.out] at ho; have n0_ := Aside0.mk (blk_grown (g := gb360) (o := .cells #[.string a1_0, .int .i64 a1_1] 23 (0, 0)) (by (with_reducible repeat (first | refine blk_drewN ?_ _ | refine blk_drew ?_ | refine blk_alloc ?_ _)); exact BK360.out) hg (by simp [Value.ownBlock])); have n1_ := Aside0.mk (hb); have n2_ := Aside0.mk (ho); clear BK360; clear HB; have BK360 := n0_; have HB := n1_; have HO363 := n2_; clear n0_ n1_ n2_; clear ho hb hg hat; have hcz9_0 : w8.cell? ⟨gb360, 0, none⟩ = some (.string a1_0) := (blk_cell BK360.out 0).trans rfl; have hcz9_1 : w8.cell? ⟨gb360, 1, none⟩ = some (.int .i64 a1_1) := (blk_cell BK360.out 1).trans rfl; have hfz9_0 := blk_frozen BK360.out 0; have hfz9_1 := blk_frozen BK360.out 1) | ((with_reducible refine gate_builtin (b := .append) (xs := #[.tmp 9, .tmp 11]) rfl ?_); at_builtin; refine Kd.R_append k23 (w0 := w) w.heap.size rfl (.tmp 9) (.tmp 11) 25 23 (.agg #[(.string ⟨#[]⟩), (.int .i64 0)]) 24 rfl Try.underlying25 info23 rfl (by decide) (by omega) v362 y361 (⟨a1_0, a1_1⟩ : S23) [.string a1_0, .int .i64 a1_1] (fun k_ => k_ ≠ gb360) (fun _ => False) rfl rfl ?aP (fun _ hk => hk.elim) ?aF ?aO ?aB ?aS ?aL ?_; (case aP => exact k23_mkM _ _ _ (⟨a1_0, a1_1⟩ : S23)); (case aB => exact (by repeat (first | (with_reducible first | exact HB.out | apply below_alloc | apply pw_below_drewN | apply below_drew1 | refine below_set ?_ GE360.out) | exact HB.out))); (case aF => exact (fun k_ hk => Kd.freshB (g := gb360) (o := .cells #[.string a1_0, .int .i64 a1_1] 23 (0, 0)) (by (with_reducible repeat (first | refine blk_drewN ?_ _ | refine blk_drew ?_ | refine blk_alloc ?_ _)); exact BK360.out) k_ hk)); (case aO => exact (by (with_reducible repeat (first | apply Kd.R_alloc | apply Kd.R_drewN | apply Kd.R_drew)); exact HO363.out)); (case aS => exact (below_size (by repeat (first | (with_reducible first | exact HB.out | apply below_alloc | apply pw_below_drewN | apply below_drew1 | refine below_set ?_ GE360.out) | exact HB.out)))); (case aL => have := LMc4.out; omega); intro v365 w10 ho hb hg hat; rw [← Ny364.out] at ho; have n0_ := Aside0.mk (blk_grown (g := gb360) (o := .cells #[.string a1_0, .int .i64 a1_1] 23 (0, 0)) (by (with_reducible repeat (first | refine blk_drewN ?_ _ | refine blk_drew ?_ | refine blk_alloc ?_ _)); exact BK360.out) hg (Kd.R_away HO363.out (fun _ hk => hk))); have n1_ := Aside0.mk (hb); have n2_ := Aside0.mk (ho); clear BK360; clear HB; clear HO363; have BK360 := n0_; have HB := n1_; have HO366 := n2_; clear n0_ n1_ n2_; clear ho hb hg hat; obtain ⟨Ao11, co11, eo11⟩ := Kd.R_slice HO366.out; subst eo11; have q12 : (1 : Int) ≤ ((y364.length : Int) : Int) := of_decide_eq_true (by first | (with_reducible assumption) | assumption); obtain ⟨i012, hi012, _, hsz12, _⟩ := info_parts info23; have hcut12 := cut_from (P := Try.prog) 25 23 .i64 Try.underlying25 hi012 2 hsz12 Ao11 y364.length co11 1 (by omega) q12; have hr12 := Kd.Q_drop (k := (1 : Int).toNat) (Kd.Q_of_R HO366.out) (by omega); obtain ⟨A12, hA12⟩ : ∃ A1, A1 = (if co11 = (1 : Int).toNat then Ao11 else (Ao11 : Option Addr).map (·.add ((1 : Int).toNat * 2))) := ⟨_, rfl⟩; obtain ⟨c12, hc12⟩ : ∃ c1, c1 = co11 - (1 : Int).toNat := ⟨_, rfl⟩; have hy12 : y367.length = y364.length - (1 : Int).toNat := (by rw [Ny367.out, List.length_drop]); rw [← Ny367.out] at hr12; rw [← hy12, ← hA12, ← hc12] at hcut12; replace hr12 : Kd.Q k23 23 w10 w.heap.size (fun k_ => k_ ≠ gb360) (.slice A12 y367.length c12) y367 := (by rw [hA12, hc12, hy12]; exact hr12); have HE12 : Aside0 ((Value.slice A12 y367.length c12).ownBlock = (.slice Ao11 y364.length co11 : Value).ownBlock) := ⟨by rw [hA12]; split <;> (cases (Ao11 : Option Addr) <;> rfl)⟩; clear hy12 hi012 hsz12 HO366 hA12 hc12; have HO369 := Aside0.mk hr12; clear hr12; replace q12 := eq_true q12))
          go_ret
          exact ⟨_, by first | rfl | (simp [errW_none, errW_some] <;> rfl) | (simp [*, errW_none, errW_some] <;> rfl), by (with_reducible repeat (first | apply Kd.Q_alloc | apply Kd.Q_drewN | apply Kd.Q_drew)); exact Kd.Q_mono HO369.out (fun _ hk => trivial), by repeat (first | (with_reducible first | exact HB.out | apply below_alloc | apply pw_below_drewN | apply below_drew1 | refine below_set ?_ GE360.out) | exact HB.out)⟩
        · rw [if_neg c6] at H
          exact absurd H (by simp)
      · rw [if_neg c5] at H
        have c5b0 : decide (64 < (y364.length : Int)) = false := decide_eq_false c5
        have c5b1 : decide (64 < y364.length) = false := decide_eq_false (by omega)
        clear c5
        obtain rfl := Option.some.inj H
        go_enter Try.func66, Try.ntmps66
        go_wp2_with (first | ((with_reducible refine gate_dst (N := 3) rfl ?_); refine box_event ?hg (N := 3) ?hd (cs := #[.string a1_0, .int .i64 a1_1]) (t := 23) ?hr ?_; (case hd => rfl); (case hg => rfl); (case hr => first | (go_simp; done) | (go_simp; rfl)); intro gb360 hg w13 hbox hb; have n0_ := Aside0.mk (below_step (by repeat (first | (with_reducible first | exact HB.out | apply below_alloc | apply pw_below_drewN | apply below_drew1) | exact HB.out)) hb); have n1_ := Aside0.mk (hbox); have n2_ := Aside0.mk ((by rw [hg]; exact (below_size (by repeat (first | (with_reducible first | exact HB.out | apply below_alloc | apply pw_below_drewN | apply below_drew1) | exact HB.out))) : w.heap.size ≤ gb360)); have n3_ := Aside0.mk ((by rw [hg]; exact (below_size (by repeat (first | (with_reducible first | exact HB.out | apply below_alloc | apply pw_below_drewN | apply below_drew1) | exact HB.out))) : w.heap.size ≤ gb360)); clear HB; have HB := n0_; have BK360 := n1_; have GW360 := n2_; have GE360 := n3_; clear n0_ n1_ n2_ n3_; clear hb hbox hg) | ((with_reducible refine gate_builtin (b := .append) (xs := #[.tmp 6, .tmp 7]) rfl ?_); at_builtin; refine Kd.R_append_rows k23 (w0 := w) w.heap.size rfl (.tmp 6) (.tmp 7) 25 23 (.agg #[(.string ⟨#[]⟩), (.int .i64 0)]) 24 rfl Try.underlying25 info23 rfl (by decide) (by omega) (.slice none 0 0) ([] : List (S23)) l0 _ _ _ (fun k_ => k_ ≠ gb360) (fun _ => False) rfl rfl ?aO ?aR (fun _ _ h => h) (fun _ h => h.elim) ?aF ?aB ?aS ?aL ?_; (case aR => repeat (first | exact (Kd.C_below HR0.out HB.out) | (with_reducible refine Kd.C_alloc ?_ _) | (with_reducible refine Kd.C_drewN ?_ _) | (with_reducible refine Kd.C_drew ?_))); (case aB => exact (by repeat (first | (with_reducible first | exact HB.out | apply below_alloc | apply pw_below_drewN | apply below_drew1 | refine below_set ?_ GE360.out) | exact HB.out))); (case aF => exact (fun k_ hk => Kd.freshB (g := gb360) (o := .cells #[.string a1_0, .int .i64 a1_1] 23 (0, 0)) (by (with_reducible repeat (first | refine blk_drewN ?_ _ | refine blk_drew ?_ | refine blk_alloc ?_ _)); exact BK360.out) k_ hk)); (case aO => exact ((Kd.R_nil _ _ _ _ (fun k_ => k_ ≠ gb360)))); (case aS => exact (below_size (by repeat (first | (with_reducible first | exact HB.out | apply below_alloc | apply pw_below_drewN | apply below_drew1 | refine below_set ?_ GE360.out) | exact HB.out)))); (case aL => have := LMc3.out; omega); intro v362 w14 ho hb hg hat; rw [← Ny361.out] at ho; have n0_ := Aside0.mk (blk_grown (g := gb360) (o := .cells #[.string a1_0, .int .i64 a1_1] 23 (0, 0)) (by (with_reducible repeat (first | refine blk_drewN ?_ _ | refine blk_drew ?_ | refine blk_alloc ?_ _)); exact BK360.out) hg (by simp [Value.ownBlock])); have n1_ := Aside0.mk (hb); have n2_ := Aside0.mk (ho); clear BK360; clear HB; have BK360 := n0_; have HB := n1_; have HO363 := n2_; clear n0_ n1_ n2_; clear ho hb hg hat; have hcz15_0 : w14.cell? ⟨gb360, 0, none⟩ = some (.string a1_0) := (blk_cell BK360.out 0).trans rfl; have hcz15_1 : w14.cell? ⟨gb360, 1, none⟩ = some (.int .i64 a1_1) := (blk_cell BK360.out 1).trans rfl; have hfz15_0 := blk_frozen BK360.out 0; have hfz15_1 := blk_frozen BK360.out 1) | ((with_reducible refine gate_builtin (b := .append) (xs := #[.tmp 9, .tmp 11]) rfl ?_); at_builtin; refine Kd.R_append k23 (w0 := w) w.heap.size rfl (.tmp 9) (.tmp 11) 25 23 (.agg #[(.string ⟨#[]⟩), (.int .i64 0)]) 24 rfl Try.underlying25 info23 rfl (by decide) (by omega) v362 y361 (⟨a1_0, a1_1⟩ : S23) [.string a1_0, .int .i64 a1_1] (fun k_ => k_ ≠ gb360) (fun _ => False) rfl rfl ?aP (fun _ hk => hk.elim) ?aF ?aO ?aB ?aS ?aL ?_; (case aP => exact k23_mkM _ _ _ (⟨a1_0, a1_1⟩ : S23)); (case aB => exact (by repeat (first | (with_reducible first | exact HB.out | apply below_alloc | apply pw_below_drewN | apply below_drew1 | refine below_set ?_ GE360.out) | exact HB.out))); (case aF => exact (fun k_ hk => Kd.freshB (g := gb360) (o := .cells #[.string a1_0, .int .i64 a1_1] 23 (0, 0)) (by (with_reducible repeat (first | refine blk_drewN ?_ _ | refine blk_drew ?_ | refine blk_alloc ?_ _)); exact BK360.out) k_ hk)); (case aO => exact (by (with_reducible repeat (first | apply Kd.R_alloc | apply Kd.R_drewN | apply Kd.R_drew)); exact HO363.out)); (case aS => exact (below_size (by repeat (first | (with_reducible first | exact HB.out | apply below_alloc | apply pw_below_drewN | apply below_drew1 | refine below_set ?_ GE360.out) | exact HB.out)))); (case aL => have := LMc4.out; omega); intro v365 w16 ho hb hg hat; rw [← Ny364.out] at ho; have n0_ := Aside0.mk (blk_grown (g := gb360) (o := .cells #[.string a1_0, .int .i64 a1_1] 23 (0, 0)) (by (with_reducible repeat (first | refine blk_drewN ?_ _ | refine blk_drew ?_ | refine blk_alloc ?_ _)); exact BK360.out) hg (Kd.R_away HO363.out (fun _ hk => hk))); have n1_ := Aside0.mk (hb); have n2_ := Aside0.mk (ho); clear BK360; clear HB; clear HO363; have BK360 := n0_; have HB := n1_; have HO366 := n2_; clear n0_ n1_ n2_; clear ho hb hg hat; obtain ⟨Ao17, co17, eo17⟩ := Kd.R_slice HO366.out; subst eo17))
        go_ret
        exact ⟨_, by first | rfl | (simp [errW_none, errW_some] <;> rfl) | (simp [*, errW_none, errW_some] <;> rfl), Kd.Q_of_R (by (with_reducible repeat (first | apply Kd.R_alloc | apply Kd.R_drewN | apply Kd.R_drew)); exact Kd.R_mono HO366.out (fun _ hk => trivial)), by repeat (first | (with_reducible first | exact HB.out | apply below_alloc | apply pw_below_drewN | apply below_drew1 | refine below_set ?_ GE360.out) | exact HB.out)⟩
    · rw [if_neg c4] at H
      exact absurd H (by simp)
  · rw [if_neg c3] at H
    exact absurd H (by simp)

end Go.Proofs.Ytlbbjdggebgabaa.P
end

section
/- The reference's editor: values whose lists keep away from boxes; push, edit. -/
namespace Go.Proofs.Ytlbbjdggebgabaa.P
open Go.RowKit Go.Proofs.YtlbbjdggebgabaaW.PrintWords Go.Proofs.YtlbbjdggebgabaaW.PrintLast Go.Proofs.YtlbbjdggebgabaaW.PrintMore
set_option linter.unusedVariables false
set_option linter.unusedSimpArgs false

/-- An editor's value; its lists lie in blocks that P allows. -/
def EdV (W : World) (P : Nat → Prop) (s : St) (v : Value) : Prop := ∃ (Ak Au Ar : Option Addr) (ck cu cr : Nat), v = edV s (.slice Ak s.kills.length ck) (.slice Au s.undo.length cu) (.slice Ar s.redo.length cr) ∧
  Kd.V Kd.string 9 W 0 P (.slice Ak s.kills.length ck) s.kills ∧ Kd.V k23 23 W 0 P (.slice Au s.undo.length cu) s.undo ∧ Kd.V k23 23 W 0 P (.slice Ar s.redo.length cr) s.redo
theorem EdV.below {W W1 : World} {P : Nat → Prop} {s : St} {v : Value} (h : EdV W P s v) (hb : Below W.heap.size W W1) : EdV W1 P s v := by
  obtain ⟨Ak, Au, Ar, ck, cu, cr, rfl, h1, h2, h3⟩ := h
  exact ⟨Ak, Au, Ar, ck, cu, cr, rfl, Kd.V_below h1 hb, Kd.V_below h2 hb, Kd.V_below h3 hb⟩
theorem EdV.mono {W : World} {P Q : Nat → Prop} {s : St} {v : Value} (h : EdV W P s v) (hq : ∀ k, P k → Q k) : EdV W Q s v := by
  obtain ⟨Ak, Au, Ar, ck, cu, cr, rfl, h1, h2, h3⟩ := h
  exact ⟨Ak, Au, Ar, ck, cu, cr, rfl, Kd.V_mono h1 hq, Kd.V_mono h2 hq, Kd.V_mono h3 hq⟩
theorem EdV.old {W : World} {P : Nat → Prop} {s : St} {v : Value} (h : EdV W P s v) : EdV W (fun k => P k ∧ k < W.heap.size) s v := by
  obtain ⟨Ak, Au, Ar, ck, cu, cr, rfl, h1, h2, h3⟩ := h
  exact ⟨Ak, Au, Ar, ck, cu, cr, rfl, Kd.V_bound h1, Kd.V_bound h2, Kd.V_bound h3⟩
theorem EdV.ed {W : World} {P : Nat → Prop} {s : St} {v : Value} (h : EdV W P s v) : EdC W s v := by
  obtain ⟨Ak, Au, Ar, ck, cu, cr, rfl, h1, h2, h3⟩ := h
  exact ⟨Ak, Au, Ar, ck, cu, cr, rfl, (Kd.V_reads' h1).2.2, (Kd.V_reads' h2).2.2, (Kd.V_reads' h3).2.2⟩
section
variable {w W : World} {rb : Nat} {s : St} {P : Nat → Prop} {Ak Au Ar : Option Addr} {ck cu cr : Nat} {z0 z1 z2 z3 z4 z5 z6 z7 z8 z9 : Value}
theorem fillW_V {α : Type} {d : Kd α} {e base : Nat} {v : Value} {xs : List α} {v0 v1 v2 v3 v4 v5 v6 v7 v8 v9 : Value} (h : Kd.V d e W base P v xs) (hne : ∀ k, P k → k ≠ rb) : Kd.V d e (fillW W rb v0 v1 v2 v3 v4 v5 v6 v7 v8 v9) base P v xs := by
  unfold fillW
  exact Kd.V_far (Kd.V_far (Kd.V_far (Kd.V_far (Kd.V_far (Kd.V_far (Kd.V_far (Kd.V_far (Kd.V_far (Kd.V_far h (p := ⟨rb, 0, none⟩) hne _) (p := ⟨rb, 1, none⟩) hne _) (p := ⟨rb, 2, none⟩) hne _) (p := ⟨rb, 3, none⟩) hne _) (p := ⟨rb, 4, none⟩) hne _) (p := ⟨rb, 5, none⟩) hne _) (p := ⟨rb, 6, none⟩) hne _) (p := ⟨rb, 7, none⟩) hne _) (p := ⟨rb, 8, none⟩) hne _) (p := ⟨rb, 9, none⟩) hne _
theorem ten_cells {W : World} {b : Nat} {z0 z1 z2 z3 z4 z5 z6 z7 z8 z9 : Value} (h : W.heap[b]? = some (.cells #[z0, z1, z2, z3, z4, z5, z6, z7, z8, z9] 27 (0, 0))) : W.cell? ⟨b, 0, none⟩ = some z0 ∧ W.cell? ⟨b, 1, none⟩ = some z1 ∧ W.cell? ⟨b, 2, none⟩ = some z2 ∧ W.cell? ⟨b, 3, none⟩ = some z3 ∧ W.cell? ⟨b, 4, none⟩ = some z4 ∧ W.cell? ⟨b, 5, none⟩ = some z5 ∧ W.cell? ⟨b, 6, none⟩ = some z6 ∧ W.cell? ⟨b, 7, none⟩ = some z7 ∧ W.cell? ⟨b, 8, none⟩ = some z8 ∧ W.cell? ⟨b, 9, none⟩ = some z9 :=
  ⟨(blk_cell h 0).trans rfl, (blk_cell h 1).trans rfl, (blk_cell h 2).trans rfl, (blk_cell h 3).trans rfl, (blk_cell h 4).trans rfl, (blk_cell h 5).trans rfl, (blk_cell h 6).trans rfl, (blk_cell h 7).trans rfl, (blk_cell h 8).trans rfl, (blk_cell h 9).trans rfl⟩
/-- An editor's value laid into a box of ten cells. -/
theorem put_edV (H3 : Kd.V Kd.string 9 W 0 P (.slice Ak s.kills.length ck) s.kills) (H4 : Kd.V k23 23 W 0 P (.slice Au s.undo.length cu) s.undo) (H5 : Kd.V k23 23 W 0 P (.slice Ar s.redo.length cr) s.redo) (hP : ∀ k, P k → k ≠ rb)
    (hrb : W.heap[rb]? = some (.cells #[z0, z1, z2, z3, z4, z5, z6, z7, z8, z9] 27 (0, 0))) (hb : Below w.heap.size w W) (hr : w.heap.size ≤ rb) :
    (fillW W rb (.string s.text) (.int .i64 s.pos) (.int .i64 s.mark) (.slice Ak s.kills.length ck) (.slice Au s.undo.length cu) (.slice Ar s.redo.length cr) (.string s.keys) (.int .i64 s.last) (.int .i64 s.line) (.string s.saved)).heap[rb]? = some (.cells #[.string s.text, .int .i64 s.pos, .int .i64 s.mark, .slice Ak s.kills.length ck, .slice Au s.undo.length cu, .slice Ar s.redo.length cr, .string s.keys, .int .i64 s.last, .int .i64 s.line, .string s.saved] 27 (0, 0)) ∧
    EdV (fillW W rb (.string s.text) (.int .i64 s.pos) (.int .i64 s.mark) (.slice Ak s.kills.length ck) (.slice Au s.undo.length cu) (.slice Ar s.redo.length cr) (.string s.keys) (.int .i64 s.last) (.int .i64 s.line) (.string s.saved)) P s (.agg #[.string s.text, .int .i64 s.pos, .int .i64 s.mark, .slice Ak s.kills.length ck, .slice Au s.undo.length cu, .slice Ar s.redo.length cr, .string s.keys, .int .i64 s.last, .int .i64 s.line, .string s.saved]) ∧ Below w.heap.size w (fillW W rb (.string s.text) (.int .i64 s.pos) (.int .i64 s.mark) (.slice Ak s.kills.length ck) (.slice Au s.undo.length cu) (.slice Ar s.redo.length cr) (.string s.keys) (.int .i64 s.last) (.int .i64 s.line) (.string s.saved)) :=
  ⟨fillW_blk hrb, ⟨Ak, Au, Ar, ck, cu, cr, rfl, fillW_V H3 hP, fillW_V H4 hP, fillW_V H5 hP⟩, fillW_below hb hr⟩
end
theorem clamp_cases (Y : St) : ((Y.text.size : Int) < Y.mark ∧ clampS Y = { Y with mark := (Y.text.size : Int) }) ∨ (¬ (Y.text.size : Int) < Y.mark ∧ clampS Y = Y) := by
  unfold clampS
  by_cases h : (Y.text.size : Int) < Y.mark
  · exact .inl ⟨h, by rw [if_pos h]⟩
  · exact .inr ⟨h, by rw [if_neg h]⟩
theorem rpush_f (l : List S23) (a : ByteArray) (b : Int) (h : l.length < 1000000) : jobshellref46_push.f l a b = some (pushS l ⟨a, b⟩) := by
  unfold jobshellref46_push.f pushS
  have hl : (l ++ [(⟨a, b⟩ : S23)]).length = l.length + 1 := by simp
  rw [if_pos (by simp; omega), Option.bind_some, List.nil_append, if_pos (by omega), Option.bind_some]
  by_cases hc : (l ++ [(⟨a, b⟩ : S23)]).length > 64
  · rw [if_pos hc, if_pos (by omega), if_pos (by omega)]
    rfl
  · rw [if_neg hc, if_neg (by omega)]

set_option maxHeartbeats 16000000 in
set_option maxRecDepth 100000 in
theorem redit_calls (w : World) (P : Nat → Prop) (s : St) (t : ByteArray) (p a : Int) (v : Value) (hv : EdV w P s v) (hu : s.undo.length < 1000000) (hm : s.mark ≤ s.text.size) :
    Calls Try.prog 63 #[v, .agg #[.string t, .int .i64 p], .int .i64 a] w fun e w' => ∃ v', e = .returned v' ∧ EdV w' (fun k => P k ∨ w.heap.size ≤ k) (setS s a t p).1 v' ∧ Below w.heap.size w w' := by
  have hvo := hv.old
  obtain ⟨Ak, Au, Ar, ck, cu, cr, rfl, h1, h2, h3⟩ := hvo
  unfold edV
  have hu27 := Try.underlying27
  have hu23 := Try.underlying23
  obtain ⟨w1, hw1⟩ : ∃ z, z = (((w.alloc (.cells #[.string s.text, .int .i64 s.pos, .int .i64 s.mark, .slice Ak s.kills.length ck, .slice Au s.undo.length cu, .slice Ar s.redo.length cr, .string s.keys, .int .i64 s.last, .int .i64 s.line, .string s.saved] 27)).alloc (.cells #[.string t, .int .i64 p] 23)).alloc (.cells #[.string ⟨#[]⟩, .int .i64 0, .int .i64 0, .slice none 0 0, .slice none 0 0, .slice none 0 0, .string ⟨#[]⟩, .int .i64 0, .int .i64 0, .string ⟨#[]⟩] 27)) := ⟨_, rfl⟩
  have hb1 : Below w.heap.size w w1 := by rw [hw1]; exact below_alloc (below_alloc (below_alloc (Below.refl _ _) _) _) _
  have HE := Aside0.mk (show w1.heap[w.heap.size]? = some (.cells #[.string s.text, .int .i64 s.pos, .int .i64 s.mark, .slice Ak s.kills.length ck, .slice Au s.undo.length cu, .slice Ar s.redo.length cr, .string s.keys, .int .i64 s.last, .int .i64 s.line, .string s.saved] 27 (0, 0)) from by rw [hw1]; exact blk_alloc (blk_alloc (blk_new w _) _) _)
  have HS := Aside0.mk (show w1.heap[w.heap.size + 1]? = some (.cells #[.string t, .int .i64 p] 23 (0, 0)) from by rw [hw1]; exact blk_alloc (blk_new2 w _ _ _) _)
  have HR := Aside0.mk (show w1.heap[w.heap.size + 1 + 1]? = some (.cells #[.string ⟨#[]⟩, .int .i64 0, .int .i64 0, .slice none 0 0, .slice none 0 0, .slice none 0 0, .string ⟨#[]⟩, .int .i64 0, .int .i64 0, .string ⟨#[]⟩] 27 (0, 0)) from by rw [hw1]; exact blk_new3 w _ _ _ _)
  have hsz : w1.heap.size = w.heap.size + 1 + 1 + 1 := by rw [hw1]; simp
  obtain ⟨Q, hQ⟩ : ∃ Q : Nat → Prop, Q = fun k => (P k ∧ k < w.heap.size) ∨ w1.heap.size ≤ k := ⟨_, rfl⟩
  have hQe : ∀ k, Q k → k ≠ w.heap.size := by intro k hk; rw [hQ] at hk; rcases hk with hk | hk <;> omega
  have hQr : ∀ k, Q k → k ≠ w.heap.size + 1 + 1 := by intro k hk; rw [hQ] at hk; rcases hk with hk | hk <;> omega
  have hQP : ∀ k, Q k → (P k ∨ w.heap.size ≤ k) := by intro k hk; rw [hQ] at hk; rcases hk with hk | hk; exact .inl hk.1; exact .inr (by omega)
  have hQn : ∀ k, w1.heap.size ≤ k → Q k := by intro k hk; rw [hQ]; exact .inr hk
  have K1 := Aside0.mk (Kd.V_mono (Kd.V_below h1 hb1) (fun k hk => show Q k from by rw [hQ]; exact .inl hk))
  have K2 := Aside0.mk (Kd.V_mono (Kd.V_below h2 hb1) (fun k hk => show Q k from by rw [hQ]; exact .inl hk))
  have K3 := Aside0.mk (Kd.V_mono (Kd.V_below h3 hb1) (fun k hk => show Q k from by rw [hQ]; exact .inl hk))
  have HW1 := Aside0.mk hw1
  have HB1 := Aside0.mk hb1
  have HSZ := Aside0.mk hsz
  have HQe := Aside0.mk hQe
  have HQr := Aside0.mk hQr
  have HQP := Aside0.mk hQP
  have HQn := Aside0.mk hQn
  have HU := Aside0.mk hu
  clear hv h1 h2 h3 hw1 hb1 hsz hQ hQe hQr hQP hQn hu
  unfold setS
  by_cases g1 : (t.size : Int) > 4096
  · rw [if_pos g1]
    have g1b : decide (4096 < (t.size : Int)) = true := decide_eq_true g1
    have g1c : decide (4096 < t.size) = true := decide_eq_true (by omega)
    clear g1
    go_enter Try.func63, Try.ntmps63
    go_upto_if 10 with (fail)
    rw [← HW1.out]
    have hqr := blk_frozen HR.out
    obtain ⟨d0, d1, d2, d3, d4, d5, d6, d7, d8, d9⟩ := Box.cells (s := s) HE.out
    obtain ⟨r0, r1, r2, r3, r4, r5, r6, r7, r8, r9⟩ := ten_cells HR.out
    go_wp2_with (fail)
    obtain ⟨y1, y2, y3⟩ := put_edV (w := w) (s := s) (rb := w.heap.size + 1 + 1) K1.out K2.out K3.out HQr.out HR.out HB1.out (by omega)
    refine bodyPost_ret (results_cell_row rfl _ _ (w.heap.size + 1 + 1) 27 _ (0, 0) _ rfl y1 hu27 rfl (by first | rfl | decide)) rfl ?_
    exact ⟨_, rfl, y2.mono HQP.out, y3⟩
  · rw [if_neg g1]
    have g1b : decide (4096 < (t.size : Int)) = false := decide_eq_false g1
    have g1c : decide (4096 < t.size) = false := decide_eq_false (by omega)
    clear g1
    by_cases g2 : t.toList = s.text.toList
    · rw [if_pos g2]
      have g2b : (t.toList == s.text.toList) = true := beq_iff_eq.mpr g2
      have e : t = s.text := by rw [ByteArray.toList_eq, ByteArray.toList_eq] at g2; exact ByteArray.ext (Array.ext' g2)
      have g3 : decide ((t.size : Int) < s.mark) = false := decide_eq_false (by rw [e]; omega)
      have g4 : ¬ (t.size : Int) < s.mark := by rw [e]; omega
      clear g2 e hm
      go_enter Try.func63, Try.ntmps63
      go_upto_if 10 with (fail)
      rw [← HW1.out]
      have hqe := blk_frozen HE.out
      have hqr := blk_frozen HR.out
      obtain ⟨d0, d1, d2, d3, d4, d5, d6, d7, d8, d9⟩ := Box.cells (s := s) HE.out
      have s0 := (blk_cell HS.out 0).trans rfl
      have s1 := (blk_cell HS.out 1).trans rfl
      obtain ⟨r0, r1, r2, r3, r4, r5, r6, r7, r8, r9⟩ := ten_cells HR.out
      obtain ⟨wx, hwx⟩ : ∃ z, z = (((w1.setCell ⟨w.heap.size, 0, none⟩ (.string t)).setCell ⟨w.heap.size, 1, none⟩ (.int .i64 p)).setCell ⟨w.heap.size, 2, none⟩ (.int .i64 s.mark)) := ⟨_, rfl⟩
      have HEX := Aside0.mk (show wx.heap[w.heap.size]? = some (.cells #[.string t, .int .i64 p, .int .i64 s.mark, .slice Ak s.kills.length ck, .slice Au s.undo.length cu, .slice Ar s.redo.length cr, .string s.keys, .int .i64 s.last, .int .i64 s.line, .string s.saved] 27 (0, 0)) from by rw [hwx]; exact (blk_put (cs' := #[.string t, .int .i64 p, .int .i64 s.mark, .slice Ak s.kills.length ck, .slice Au s.undo.length cu, .slice Ar s.redo.length cr, .string s.keys, .int .i64 s.last, .int .i64 s.line, .string s.saved]) (blk_put (cs' := #[.string t, .int .i64 p, .int .i64 s.mark, .slice Ak s.kills.length ck, .slice Au s.undo.length cu, .slice Ar s.redo.length cr, .string s.keys, .int .i64 s.last, .int .i64 s.line, .string s.saved]) (blk_put (cs' := #[.string t, .int .i64 s.pos, .int .i64 s.mark, .slice Ak s.kills.length ck, .slice Au s.undo.length cu, .slice Ar s.redo.length cr, .string s.keys, .int .i64 s.last, .int .i64 s.line, .string s.saved]) HE.out 0 (.string t) rfl) 1 (.int .i64 p) rfl) 2 (.int .i64 s.mark) rfl))
      have HRX := Aside0.mk (show wx.heap[w.heap.size + 1 + 1]? = some (.cells #[.string ⟨#[]⟩, .int .i64 0, .int .i64 0, .slice none 0 0, .slice none 0 0, .slice none 0 0, .string ⟨#[]⟩, .int .i64 0, .int .i64 0, .string ⟨#[]⟩] 27 (0, 0)) from by rw [hwx]; exact (blk_far (blk_far (blk_far HR.out (p := ⟨w.heap.size, 0, none⟩) (by simp; omega) _) (p := ⟨w.heap.size, 1, none⟩) (by simp; omega) _) (p := ⟨w.heap.size, 2, none⟩) (by simp; omega) _))
      have HBX := Aside0.mk (show Below w.heap.size w wx from by rw [hwx]; exact (below_set (below_set (below_set HB1.out (Nat.le_refl _)) (Nat.le_refl _)) (Nat.le_refl _)))
      have X1 := Aside0.mk (show Kd.V Kd.string 9 wx 0 Q _ _ from by rw [hwx]; exact (Kd.V_far (Kd.V_far (Kd.V_far K1.out (p := ⟨w.heap.size, 0, none⟩) HQe.out _) (p := ⟨w.heap.size, 1, none⟩) HQe.out _) (p := ⟨w.heap.size, 2, none⟩) HQe.out _))
      have X2 := Aside0.mk (show Kd.V k23 23 wx 0 Q _ _ from by rw [hwx]; exact (Kd.V_far (Kd.V_far (Kd.V_far K2.out (p := ⟨w.heap.size, 0, none⟩) HQe.out _) (p := ⟨w.heap.size, 1, none⟩) HQe.out _) (p := ⟨w.heap.size, 2, none⟩) HQe.out _))
      have X3 := Aside0.mk (show Kd.V k23 23 wx 0 Q _ _ from by rw [hwx]; exact (Kd.V_far (Kd.V_far (Kd.V_far K3.out (p := ⟨w.heap.size, 0, none⟩) HQe.out _) (p := ⟨w.heap.size, 1, none⟩) HQe.out _) (p := ⟨w.heap.size, 2, none⟩) HQe.out _))
      have HWX := Aside0.mk hwx
      clear hwx
      go_upto_region 9 with (fail)
      rw [← HWX.out]
      clear hqe hqr d0 d1 d2 d3 d4 d5 d6 d7 d8 d9 s0 s1 r0 r1 r2 r3 r4 r5 r6 r7 r8 r9
      obtain ⟨d0, d1, d2, d3, d4, d5, d6, d7, d8, d9⟩ := ten_cells HEX.out
      have hqr := blk_frozen HRX.out
      obtain ⟨r0, r1, r2, r3, r4, r5, r6, r7, r8, r9⟩ := ten_cells HRX.out
      go_wp2_with (fail)
      obtain ⟨y1, y2, y3⟩ := put_edV (w := w) (W := wx) (s := { s with text := t, pos := p }) (rb := w.heap.size + 1 + 1) X1.out X2.out X3.out HQr.out HRX.out HBX.out (by omega)
      refine bodyPost_ret (results_cell_row rfl _ _ (w.heap.size + 1 + 1) 27 _ (0, 0) _ rfl y1 hu27 rfl (by first | rfl | decide)) rfl ?_
      exact ⟨_, rfl, y2.mono HQP.out, y3⟩
    · rw [if_neg g2]
      have g2b : (t.toList == s.text.toList) = false := beq_eq_false_iff_ne.mpr g2
      clear g2 hm
      by_cases hp : a = 1 ∧ s.last = 1
      · rw [if_pos hp]
        have h3b : (a != 1) = false := bne_eq_false_iff_eq.mpr hp.1
        have h4b : (s.last != 1) = false := bne_eq_false_iff_eq.mpr hp.2
        clear hp
        rcases clamp_cases { s with text := t, pos := p, undo := s.undo, redo := [] } with ⟨hm1, hm2⟩ | ⟨hm1, hm2⟩
        · rw [hm2]
          have hm1' : (t.size : Int) < s.mark := hm1
          have hm3 : decide ((t.size : Int) < s.mark) = true := decide_eq_true hm1'
          clear hm1 hm2
          go_enter Try.func63, Try.ntmps63
          go_upto_if 10 with (fail)
          rw [← HW1.out]
          have hqe := blk_frozen HE.out
          have hqr := blk_frozen HR.out
          obtain ⟨d0, d1, d2, d3, d4, d5, d6, d7, d8, d9⟩ := Box.cells (s := s) HE.out
          have s0 := (blk_cell HS.out 0).trans rfl
          have s1 := (blk_cell HS.out 1).trans rfl
          obtain ⟨r0, r1, r2, r3, r4, r5, r6, r7, r8, r9⟩ := ten_cells HR.out
          obtain ⟨wx, hwx⟩ : ∃ z, z = ((((w1.setCell ⟨w.heap.size, 5, none⟩ (.slice none 0 0)).setCell ⟨w.heap.size, 0, none⟩ (.string t)).setCell ⟨w.heap.size, 1, none⟩ (.int .i64 p)).setCell ⟨w.heap.size, 2, none⟩ (.int .i64 (t.size : Int))) := ⟨_, rfl⟩
          have HEX := Aside0.mk (show wx.heap[w.heap.size]? = some (.cells #[.string t, .int .i64 p, .int .i64 (t.size : Int), .slice Ak s.kills.length ck, .slice Au s.undo.length cu, .slice none 0 0, .string s.keys, .int .i64 s.last, .int .i64 s.line, .string s.saved] 27 (0, 0)) from by rw [hwx]; exact (blk_put (cs' := #[.string t, .int .i64 p, .int .i64 (t.size : Int), .slice Ak s.kills.length ck, .slice Au s.undo.length cu, .slice none 0 0, .string s.keys, .int .i64 s.last, .int .i64 s.line, .string s.saved]) (blk_put (cs' := #[.string t, .int .i64 p, .int .i64 s.mark, .slice Ak s.kills.length ck, .slice Au s.undo.length cu, .slice none 0 0, .string s.keys, .int .i64 s.last, .int .i64 s.line, .string s.saved]) (blk_put (cs' := #[.string t, .int .i64 s.pos, .int .i64 s.mark, .slice Ak s.kills.length ck, .slice Au s.undo.length cu, .slice none 0 0, .string s.keys, .int .i64 s.last, .int .i64 s.line, .string s.saved]) (blk_put (cs' := #[.string s.text, .int .i64 s.pos, .int .i64 s.mark, .slice Ak s.kills.length ck, .slice Au s.undo.length cu, .slice none 0 0, .string s.keys, .int .i64 s.last, .int .i64 s.line, .string s.saved]) HE.out 5 (.slice none 0 0) rfl) 0 (.string t) rfl) 1 (.int .i64 p) rfl) 2 (.int .i64 (t.size : Int)) rfl))
          have HRX := Aside0.mk (show wx.heap[w.heap.size + 1 + 1]? = some (.cells #[.string ⟨#[]⟩, .int .i64 0, .int .i64 0, .slice none 0 0, .slice none 0 0, .slice none 0 0, .string ⟨#[]⟩, .int .i64 0, .int .i64 0, .string ⟨#[]⟩] 27 (0, 0)) from by rw [hwx]; exact (blk_far (blk_far (blk_far (blk_far HR.out (p := ⟨w.heap.size, 5, none⟩) (by simp; omega) _) (p := ⟨w.heap.size, 0, none⟩) (by simp; omega) _) (p := ⟨w.heap.size, 1, none⟩) (by simp; omega) _) (p := ⟨w.heap.size, 2, none⟩) (by simp; omega) _))
          have HBX := Aside0.mk (show Below w.heap.size w wx from by rw [hwx]; exact (below_set (below_set (below_set (below_set HB1.out (Nat.le_refl _)) (Nat.le_refl _)) (Nat.le_refl _)) (Nat.le_refl _)))
          have X1 := Aside0.mk (show Kd.V Kd.string 9 wx 0 Q _ _ from by rw [hwx]; exact (Kd.V_far (Kd.V_far (Kd.V_far (Kd.V_far K1.out (p := ⟨w.heap.size, 5, none⟩) HQe.out _) (p := ⟨w.heap.size, 0, none⟩) HQe.out _) (p := ⟨w.heap.size, 1, none⟩) HQe.out _) (p := ⟨w.heap.size, 2, none⟩) HQe.out _))
          have X2 := Aside0.mk (show Kd.V k23 23 wx 0 Q _ _ from by rw [hwx]; exact (Kd.V_far (Kd.V_far (Kd.V_far (Kd.V_far K2.out (p := ⟨w.heap.size, 5, none⟩) HQe.out _) (p := ⟨w.heap.size, 0, none⟩) HQe.out _) (p := ⟨w.heap.size, 1, none⟩) HQe.out _) (p := ⟨w.heap.size, 2, none⟩) HQe.out _))
          have X3 := Aside0.mk (show Kd.V k23 23 wx 0 Q _ _ from by rw [hwx]; exact (Kd.V_far (Kd.V_far (Kd.V_far (Kd.V_far (Kd.V_nil k23 23 w1 0 Q) (p := ⟨w.heap.size, 5, none⟩) HQe.out _) (p := ⟨w.heap.size, 0, none⟩) HQe.out _) (p := ⟨w.heap.size, 1, none⟩) HQe.out _) (p := ⟨w.heap.size, 2, none⟩) HQe.out _))
          have HWX := Aside0.mk hwx
          clear hwx
          go_upto_region 9 with (fail)
          rw [← HWX.out]
          clear hqe hqr d0 d1 d2 d3 d4 d5 d6 d7 d8 d9 s0 s1 r0 r1 r2 r3 r4 r5 r6 r7 r8 r9
          obtain ⟨d0, d1, d2, d3, d4, d5, d6, d7, d8, d9⟩ := ten_cells HEX.out
          have hqr := blk_frozen HRX.out
          obtain ⟨r0, r1, r2, r3, r4, r5, r6, r7, r8, r9⟩ := ten_cells HRX.out
          go_wp2_with (fail)
          obtain ⟨y1, y2, y3⟩ := put_edV (w := w) (W := wx) (s := { s with text := t, pos := p, mark := (t.size : Int), redo := [] }) (rb := w.heap.size + 1 + 1) X1.out X2.out X3.out HQr.out HRX.out HBX.out (by omega)
          refine bodyPost_ret (results_cell_row rfl _ _ (w.heap.size + 1 + 1) 27 _ (0, 0) _ rfl y1 hu27 rfl (by first | rfl | decide)) rfl ?_
          exact ⟨_, rfl, y2.mono HQP.out, y3⟩
        · rw [hm2]
          have hm1' : ¬ (t.size : Int) < s.mark := hm1
          have hm3 : decide ((t.size : Int) < s.mark) = false := decide_eq_false hm1'
          clear hm1 hm2
          go_enter Try.func63, Try.ntmps63
          go_upto_if 10 with (fail)
          rw [← HW1.out]
          have hqe := blk_frozen HE.out
          have hqr := blk_frozen HR.out
          obtain ⟨d0, d1, d2, d3, d4, d5, d6, d7, d8, d9⟩ := Box.cells (s := s) HE.out
          have s0 := (blk_cell HS.out 0).trans rfl
          have s1 := (blk_cell HS.out 1).trans rfl
          obtain ⟨r0, r1, r2, r3, r4, r5, r6, r7, r8, r9⟩ := ten_cells HR.out
          obtain ⟨wx, hwx⟩ : ∃ z, z = ((((w1.setCell ⟨w.heap.size, 5, none⟩ (.slice none 0 0)).setCell ⟨w.heap.size, 0, none⟩ (.string t)).setCell ⟨w.heap.size, 1, none⟩ (.int .i64 p)).setCell ⟨w.heap.size, 2, none⟩ (.int .i64 s.mark)) := ⟨_, rfl⟩
          have HEX := Aside0.mk (show wx.heap[w.heap.size]? = some (.cells #[.string t, .int .i64 p, .int .i64 s.mark, .slice Ak s.kills.length ck, .slice Au s.undo.length cu, .slice none 0 0, .string s.keys, .int .i64 s.last, .int .i64 s.line, .string s.saved] 27 (0, 0)) from by rw [hwx]; exact (blk_put (cs' := #[.string t, .int .i64 p, .int .i64 s.mark, .slice Ak s.kills.length ck, .slice Au s.undo.length cu, .slice none 0 0, .string s.keys, .int .i64 s.last, .int .i64 s.line, .string s.saved]) (blk_put (cs' := #[.string t, .int .i64 p, .int .i64 s.mark, .slice Ak s.kills.length ck, .slice Au s.undo.length cu, .slice none 0 0, .string s.keys, .int .i64 s.last, .int .i64 s.line, .string s.saved]) (blk_put (cs' := #[.string t, .int .i64 s.pos, .int .i64 s.mark, .slice Ak s.kills.length ck, .slice Au s.undo.length cu, .slice none 0 0, .string s.keys, .int .i64 s.last, .int .i64 s.line, .string s.saved]) (blk_put (cs' := #[.string s.text, .int .i64 s.pos, .int .i64 s.mark, .slice Ak s.kills.length ck, .slice Au s.undo.length cu, .slice none 0 0, .string s.keys, .int .i64 s.last, .int .i64 s.line, .string s.saved]) HE.out 5 (.slice none 0 0) rfl) 0 (.string t) rfl) 1 (.int .i64 p) rfl) 2 (.int .i64 s.mark) rfl))
          have HRX := Aside0.mk (show wx.heap[w.heap.size + 1 + 1]? = some (.cells #[.string ⟨#[]⟩, .int .i64 0, .int .i64 0, .slice none 0 0, .slice none 0 0, .slice none 0 0, .string ⟨#[]⟩, .int .i64 0, .int .i64 0, .string ⟨#[]⟩] 27 (0, 0)) from by rw [hwx]; exact (blk_far (blk_far (blk_far (blk_far HR.out (p := ⟨w.heap.size, 5, none⟩) (by simp; omega) _) (p := ⟨w.heap.size, 0, none⟩) (by simp; omega) _) (p := ⟨w.heap.size, 1, none⟩) (by simp; omega) _) (p := ⟨w.heap.size, 2, none⟩) (by simp; omega) _))
          have HBX := Aside0.mk (show Below w.heap.size w wx from by rw [hwx]; exact (below_set (below_set (below_set (below_set HB1.out (Nat.le_refl _)) (Nat.le_refl _)) (Nat.le_refl _)) (Nat.le_refl _)))
          have X1 := Aside0.mk (show Kd.V Kd.string 9 wx 0 Q _ _ from by rw [hwx]; exact (Kd.V_far (Kd.V_far (Kd.V_far (Kd.V_far K1.out (p := ⟨w.heap.size, 5, none⟩) HQe.out _) (p := ⟨w.heap.size, 0, none⟩) HQe.out _) (p := ⟨w.heap.size, 1, none⟩) HQe.out _) (p := ⟨w.heap.size, 2, none⟩) HQe.out _))
          have X2 := Aside0.mk (show Kd.V k23 23 wx 0 Q _ _ from by rw [hwx]; exact (Kd.V_far (Kd.V_far (Kd.V_far (Kd.V_far K2.out (p := ⟨w.heap.size, 5, none⟩) HQe.out _) (p := ⟨w.heap.size, 0, none⟩) HQe.out _) (p := ⟨w.heap.size, 1, none⟩) HQe.out _) (p := ⟨w.heap.size, 2, none⟩) HQe.out _))
          have X3 := Aside0.mk (show Kd.V k23 23 wx 0 Q _ _ from by rw [hwx]; exact (Kd.V_far (Kd.V_far (Kd.V_far (Kd.V_far (Kd.V_nil k23 23 w1 0 Q) (p := ⟨w.heap.size, 5, none⟩) HQe.out _) (p := ⟨w.heap.size, 0, none⟩) HQe.out _) (p := ⟨w.heap.size, 1, none⟩) HQe.out _) (p := ⟨w.heap.size, 2, none⟩) HQe.out _))
          have HWX := Aside0.mk hwx
          clear hwx
          go_upto_region 9 with (fail)
          rw [← HWX.out]
          clear hqe hqr d0 d1 d2 d3 d4 d5 d6 d7 d8 d9 s0 s1 r0 r1 r2 r3 r4 r5 r6 r7 r8 r9
          obtain ⟨d0, d1, d2, d3, d4, d5, d6, d7, d8, d9⟩ := ten_cells HEX.out
          have hqr := blk_frozen HRX.out
          obtain ⟨r0, r1, r2, r3, r4, r5, r6, r7, r8, r9⟩ := ten_cells HRX.out
          go_wp2_with (fail)
          obtain ⟨y1, y2, y3⟩ := put_edV (w := w) (W := wx) (s := { s with text := t, pos := p, mark := s.mark, redo := [] }) (rb := w.heap.size + 1 + 1) X1.out X2.out X3.out HQr.out HRX.out HBX.out (by omega)
          refine bodyPost_ret (results_cell_row rfl _ _ (w.heap.size + 1 + 1) 27 _ (0, 0) _ rfl y1 hu27 rfl (by first | rfl | decide)) rfl ?_
          exact ⟨_, rfl, y2.mono HQP.out, y3⟩
      · rw [if_neg hp]
        have hp2 : ((a != 1) = true ∧ True) ∨ ((a != 1) = false ∧ (s.last != 1) = true) := by
          by_cases h3 : a = 1
          · exact .inr ⟨bne_eq_false_iff_eq.mpr h3, bne_iff_ne.mpr (fun h => hp ⟨h3, h⟩)⟩
          · exact .inl ⟨bne_iff_ne.mpr h3, trivial⟩
        clear hp
        rcases hp2 with ⟨h3b, h4b⟩ | ⟨h3b, h4b⟩
        all_goals
          rcases clamp_cases { s with text := t, pos := p, undo := pushS s.undo ⟨s.text, s.pos⟩, redo := [] } with ⟨hm1, hm2⟩ | ⟨hm1, hm2⟩
          · rw [hm2]
            have hm1' : (t.size : Int) < s.mark := hm1
            have hm3 : decide ((t.size : Int) < s.mark) = true := decide_eq_true hm1'
            clear hm1 hm2
            go_enter Try.func63, Try.ntmps63
            go_upto_if 10 with (fail)
            rw [← HW1.out]
            have hqe := blk_frozen HE.out
            have hqr := blk_frozen HR.out
            obtain ⟨d0, d1, d2, d3, d4, d5, d6, d7, d8, d9⟩ := Box.cells (s := s) HE.out
            have s0 := (blk_cell HS.out 0).trans rfl
            have s1 := (blk_cell HS.out 1).trans rfl
            obtain ⟨r0, r1, r2, r3, r4, r5, r6, r7, r8, r9⟩ := ten_cells HR.out
            go_wp2_with (fail)
            refine (jobshellref46_push.calls Au cu s.undo s.text s.pos (pushS s.undo ⟨s.text, s.pos⟩) w1 (Kd.V_reads' K2.out).2.2 (Kd.V_reads' K2.out).2.1 (rpush_f s.undo s.text s.pos HU.out)).mono ?_
            rintro e w2 ⟨v0, rfl, q, hb⟩
            have k4 := Aside0.mk (Kd.V_mono (Kd.Q_V (base' := 0) (Kd.Q_bound q)) (fun k hk => HQn.out k hk.2.1))
            obtain ⟨A0, c0, rfl⟩ := Kd.V_slice k4.out
            have HE' := Aside0.mk (blk_below HE.out hb)
            have HS' := Aside0.mk (blk_below HS.out hb)
            have HR' := Aside0.mk (blk_below HR.out hb)
            have K1' := Aside0.mk (Kd.V_below K1.out hb)
            have HB' := Aside0.mk (below_step HB1.out hb)
            clear HE HS HR K1 hqe hqr d0 d1 d2 d3 d4 d5 d6 d7 d8 d9 s0 s1 r0 r1 r2 r3 r4 r5 r6 r7 r8 r9 q hb
            have HE := HE'
            have HS := HS'
            have HR := HR'
            have K1 := K1'
            clear HE' HS' HR' K1'
            have hqe := blk_frozen HE.out
            have hqr := blk_frozen HR.out
            obtain ⟨d0, d1, d2, d3, d4, d5, d6, d7, d8, d9⟩ := Box.cells (s := s) HE.out
            have s0 := (blk_cell HS.out 0).trans rfl
            have s1 := (blk_cell HS.out 1).trans rfl
            obtain ⟨r0, r1, r2, r3, r4, r5, r6, r7, r8, r9⟩ := ten_cells HR.out
            obtain ⟨wx, hwx⟩ : ∃ z, z = (((((w2.setCell ⟨w.heap.size, 4, none⟩ (.slice A0 (pushS s.undo ⟨s.text, s.pos⟩).length c0)).setCell ⟨w.heap.size, 5, none⟩ (.slice none 0 0)).setCell ⟨w.heap.size, 0, none⟩ (.string t)).setCell ⟨w.heap.size, 1, none⟩ (.int .i64 p)).setCell ⟨w.heap.size, 2, none⟩ (.int .i64 (t.size : Int))) := ⟨_, rfl⟩
            have HEX := Aside0.mk (show wx.heap[w.heap.size]? = some (.cells #[.string t, .int .i64 p, .int .i64 (t.size : Int), .slice Ak s.kills.length ck, .slice A0 (pushS s.undo ⟨s.text, s.pos⟩).length c0, .slice none 0 0, .string s.keys, .int .i64 s.last, .int .i64 s.line, .string s.saved] 27 (0, 0)) from by rw [hwx]; exact (blk_put (cs' := #[.string t, .int .i64 p, .int .i64 (t.size : Int), .slice Ak s.kills.length ck, .slice A0 (pushS s.undo ⟨s.text, s.pos⟩).length c0, .slice none 0 0, .string s.keys, .int .i64 s.last, .int .i64 s.line, .string s.saved]) (blk_put (cs' := #[.string t, .int .i64 p, .int .i64 s.mark, .slice Ak s.kills.length ck, .slice A0 (pushS s.undo ⟨s.text, s.pos⟩).length c0, .slice none 0 0, .string s.keys, .int .i64 s.last, .int .i64 s.line, .string s.saved]) (blk_put (cs' := #[.string t, .int .i64 s.pos, .int .i64 s.mark, .slice Ak s.kills.length ck, .slice A0 (pushS s.undo ⟨s.text, s.pos⟩).length c0, .slice none 0 0, .string s.keys, .int .i64 s.last, .int .i64 s.line, .string s.saved]) (blk_put (cs' := #[.string s.text, .int .i64 s.pos, .int .i64 s.mark, .slice Ak s.kills.length ck, .slice A0 (pushS s.undo ⟨s.text, s.pos⟩).length c0, .slice none 0 0, .string s.keys, .int .i64 s.last, .int .i64 s.line, .string s.saved]) (blk_put (cs' := #[.string s.text, .int .i64 s.pos, .int .i64 s.mark, .slice Ak s.kills.length ck, .slice A0 (pushS s.undo ⟨s.text, s.pos⟩).length c0, .slice Ar s.redo.length cr, .string s.keys, .int .i64 s.last, .int .i64 s.line, .string s.saved]) HE.out 4 (.slice A0 (pushS s.undo ⟨s.text, s.pos⟩).length c0) rfl) 5 (.slice none 0 0) rfl) 0 (.string t) rfl) 1 (.int .i64 p) rfl) 2 (.int .i64 (t.size : Int)) rfl))
            have HRX := Aside0.mk (show wx.heap[w.heap.size + 1 + 1]? = some (.cells #[.string ⟨#[]⟩, .int .i64 0, .int .i64 0, .slice none 0 0, .slice none 0 0, .slice none 0 0, .string ⟨#[]⟩, .int .i64 0, .int .i64 0, .string ⟨#[]⟩] 27 (0, 0)) from by rw [hwx]; exact (blk_far (blk_far (blk_far (blk_far (blk_far HR.out (p := ⟨w.heap.size, 4, none⟩) (by simp; omega) _) (p := ⟨w.heap.size, 5, none⟩) (by simp; omega) _) (p := ⟨w.heap.size, 0, none⟩) (by simp; omega) _) (p := ⟨w.heap.size, 1, none⟩) (by simp; omega) _) (p := ⟨w.heap.size, 2, none⟩) (by simp; omega) _))
            have HBX := Aside0.mk (show Below w.heap.size w wx from by rw [hwx]; exact (below_set (below_set (below_set (below_set (below_set HB'.out (Nat.le_refl _)) (Nat.le_refl _)) (Nat.le_refl _)) (Nat.le_refl _)) (Nat.le_refl _)))
            have X1 := Aside0.mk (show Kd.V Kd.string 9 wx 0 Q _ _ from by rw [hwx]; exact (Kd.V_far (Kd.V_far (Kd.V_far (Kd.V_far (Kd.V_far K1.out (p := ⟨w.heap.size, 4, none⟩) HQe.out _) (p := ⟨w.heap.size, 5, none⟩) HQe.out _) (p := ⟨w.heap.size, 0, none⟩) HQe.out _) (p := ⟨w.heap.size, 1, none⟩) HQe.out _) (p := ⟨w.heap.size, 2, none⟩) HQe.out _))
            have X2 := Aside0.mk (show Kd.V k23 23 wx 0 Q _ _ from by rw [hwx]; exact (Kd.V_far (Kd.V_far (Kd.V_far (Kd.V_far (Kd.V_far k4.out (p := ⟨w.heap.size, 4, none⟩) HQe.out _) (p := ⟨w.heap.size, 5, none⟩) HQe.out _) (p := ⟨w.heap.size, 0, none⟩) HQe.out _) (p := ⟨w.heap.size, 1, none⟩) HQe.out _) (p := ⟨w.heap.size, 2, none⟩) HQe.out _))
            have X3 := Aside0.mk (show Kd.V k23 23 wx 0 Q _ _ from by rw [hwx]; exact (Kd.V_far (Kd.V_far (Kd.V_far (Kd.V_far (Kd.V_far (Kd.V_nil k23 23 w2 0 Q) (p := ⟨w.heap.size, 4, none⟩) HQe.out _) (p := ⟨w.heap.size, 5, none⟩) HQe.out _) (p := ⟨w.heap.size, 0, none⟩) HQe.out _) (p := ⟨w.heap.size, 1, none⟩) HQe.out _) (p := ⟨w.heap.size, 2, none⟩) HQe.out _))
            have HWX := Aside0.mk hwx
            clear hwx
            go_upto_region 9 with (fail)
            rw [← HWX.out]
            clear hqe hqr d0 d1 d2 d3 d4 d5 d6 d7 d8 d9 s0 s1 r0 r1 r2 r3 r4 r5 r6 r7 r8 r9
            obtain ⟨d0, d1, d2, d3, d4, d5, d6, d7, d8, d9⟩ := ten_cells HEX.out
            have hqr := blk_frozen HRX.out
            obtain ⟨r0, r1, r2, r3, r4, r5, r6, r7, r8, r9⟩ := ten_cells HRX.out
            go_wp2_with (fail)
            obtain ⟨y1, y2, y3⟩ := put_edV (w := w) (W := wx) (s := { s with text := t, pos := p, mark := (t.size : Int), undo := pushS s.undo ⟨s.text, s.pos⟩, redo := [] }) (rb := w.heap.size + 1 + 1) X1.out X2.out X3.out HQr.out HRX.out HBX.out (by omega)
            refine bodyPost_ret (results_cell_row rfl _ _ (w.heap.size + 1 + 1) 27 _ (0, 0) _ rfl y1 hu27 rfl (by first | rfl | decide)) rfl ?_
            exact ⟨_, rfl, y2.mono HQP.out, y3⟩
          · rw [hm2]
            have hm1' : ¬ (t.size : Int) < s.mark := hm1
            have hm3 : decide ((t.size : Int) < s.mark) = false := decide_eq_false hm1'
            clear hm1 hm2
            go_enter Try.func63, Try.ntmps63
            go_upto_if 10 with (fail)
            rw [← HW1.out]
            have hqe := blk_frozen HE.out
            have hqr := blk_frozen HR.out
            obtain ⟨d0, d1, d2, d3, d4, d5, d6, d7, d8, d9⟩ := Box.cells (s := s) HE.out
            have s0 := (blk_cell HS.out 0).trans rfl
            have s1 := (blk_cell HS.out 1).trans rfl
            obtain ⟨r0, r1, r2, r3, r4, r5, r6, r7, r8, r9⟩ := ten_cells HR.out
            go_wp2_with (fail)
            refine (jobshellref46_push.calls Au cu s.undo s.text s.pos (pushS s.undo ⟨s.text, s.pos⟩) w1 (Kd.V_reads' K2.out).2.2 (Kd.V_reads' K2.out).2.1 (rpush_f s.undo s.text s.pos HU.out)).mono ?_
            rintro e w2 ⟨v0, rfl, q, hb⟩
            have k4 := Aside0.mk (Kd.V_mono (Kd.Q_V (base' := 0) (Kd.Q_bound q)) (fun k hk => HQn.out k hk.2.1))
            obtain ⟨A0, c0, rfl⟩ := Kd.V_slice k4.out
            have HE' := Aside0.mk (blk_below HE.out hb)
            have HS' := Aside0.mk (blk_below HS.out hb)
            have HR' := Aside0.mk (blk_below HR.out hb)
            have K1' := Aside0.mk (Kd.V_below K1.out hb)
            have HB' := Aside0.mk (below_step HB1.out hb)
            clear HE HS HR K1 hqe hqr d0 d1 d2 d3 d4 d5 d6 d7 d8 d9 s0 s1 r0 r1 r2 r3 r4 r5 r6 r7 r8 r9 q hb
            have HE := HE'
            have HS := HS'
            have HR := HR'
            have K1 := K1'
            clear HE' HS' HR' K1'
            have hqe := blk_frozen HE.out
            have hqr := blk_frozen HR.out
            obtain ⟨d0, d1, d2, d3, d4, d5, d6, d7, d8, d9⟩ := Box.cells (s := s) HE.out
            have s0 := (blk_cell HS.out 0).trans rfl
            have s1 := (blk_cell HS.out 1).trans rfl
            obtain ⟨r0, r1, r2, r3, r4, r5, r6, r7, r8, r9⟩ := ten_cells HR.out
            obtain ⟨wx, hwx⟩ : ∃ z, z = (((((w2.setCell ⟨w.heap.size, 4, none⟩ (.slice A0 (pushS s.undo ⟨s.text, s.pos⟩).length c0)).setCell ⟨w.heap.size, 5, none⟩ (.slice none 0 0)).setCell ⟨w.heap.size, 0, none⟩ (.string t)).setCell ⟨w.heap.size, 1, none⟩ (.int .i64 p)).setCell ⟨w.heap.size, 2, none⟩ (.int .i64 s.mark)) := ⟨_, rfl⟩
            have HEX := Aside0.mk (show wx.heap[w.heap.size]? = some (.cells #[.string t, .int .i64 p, .int .i64 s.mark, .slice Ak s.kills.length ck, .slice A0 (pushS s.undo ⟨s.text, s.pos⟩).length c0, .slice none 0 0, .string s.keys, .int .i64 s.last, .int .i64 s.line, .string s.saved] 27 (0, 0)) from by rw [hwx]; exact (blk_put (cs' := #[.string t, .int .i64 p, .int .i64 s.mark, .slice Ak s.kills.length ck, .slice A0 (pushS s.undo ⟨s.text, s.pos⟩).length c0, .slice none 0 0, .string s.keys, .int .i64 s.last, .int .i64 s.line, .string s.saved]) (blk_put (cs' := #[.string t, .int .i64 p, .int .i64 s.mark, .slice Ak s.kills.length ck, .slice A0 (pushS s.undo ⟨s.text, s.pos⟩).length c0, .slice none 0 0, .string s.keys, .int .i64 s.last, .int .i64 s.line, .string s.saved]) (blk_put (cs' := #[.string t, .int .i64 s.pos, .int .i64 s.mark, .slice Ak s.kills.length ck, .slice A0 (pushS s.undo ⟨s.text, s.pos⟩).length c0, .slice none 0 0, .string s.keys, .int .i64 s.last, .int .i64 s.line, .string s.saved]) (blk_put (cs' := #[.string s.text, .int .i64 s.pos, .int .i64 s.mark, .slice Ak s.kills.length ck, .slice A0 (pushS s.undo ⟨s.text, s.pos⟩).length c0, .slice none 0 0, .string s.keys, .int .i64 s.last, .int .i64 s.line, .string s.saved]) (blk_put (cs' := #[.string s.text, .int .i64 s.pos, .int .i64 s.mark, .slice Ak s.kills.length ck, .slice A0 (pushS s.undo ⟨s.text, s.pos⟩).length c0, .slice Ar s.redo.length cr, .string s.keys, .int .i64 s.last, .int .i64 s.line, .string s.saved]) HE.out 4 (.slice A0 (pushS s.undo ⟨s.text, s.pos⟩).length c0) rfl) 5 (.slice none 0 0) rfl) 0 (.string t) rfl) 1 (.int .i64 p) rfl) 2 (.int .i64 s.mark) rfl))
            have HRX := Aside0.mk (show wx.heap[w.heap.size + 1 + 1]? = some (.cells #[.string ⟨#[]⟩, .int .i64 0, .int .i64 0, .slice none 0 0, .slice none 0 0, .slice none 0 0, .string ⟨#[]⟩, .int .i64 0, .int .i64 0, .string ⟨#[]⟩] 27 (0, 0)) from by rw [hwx]; exact (blk_far (blk_far (blk_far (blk_far (blk_far HR.out (p := ⟨w.heap.size, 4, none⟩) (by simp; omega) _) (p := ⟨w.heap.size, 5, none⟩) (by simp; omega) _) (p := ⟨w.heap.size, 0, none⟩) (by simp; omega) _) (p := ⟨w.heap.size, 1, none⟩) (by simp; omega) _) (p := ⟨w.heap.size, 2, none⟩) (by simp; omega) _))
            have HBX := Aside0.mk (show Below w.heap.size w wx from by rw [hwx]; exact (below_set (below_set (below_set (below_set (below_set HB'.out (Nat.le_refl _)) (Nat.le_refl _)) (Nat.le_refl _)) (Nat.le_refl _)) (Nat.le_refl _)))
            have X1 := Aside0.mk (show Kd.V Kd.string 9 wx 0 Q _ _ from by rw [hwx]; exact (Kd.V_far (Kd.V_far (Kd.V_far (Kd.V_far (Kd.V_far K1.out (p := ⟨w.heap.size, 4, none⟩) HQe.out _) (p := ⟨w.heap.size, 5, none⟩) HQe.out _) (p := ⟨w.heap.size, 0, none⟩) HQe.out _) (p := ⟨w.heap.size, 1, none⟩) HQe.out _) (p := ⟨w.heap.size, 2, none⟩) HQe.out _))
            have X2 := Aside0.mk (show Kd.V k23 23 wx 0 Q _ _ from by rw [hwx]; exact (Kd.V_far (Kd.V_far (Kd.V_far (Kd.V_far (Kd.V_far k4.out (p := ⟨w.heap.size, 4, none⟩) HQe.out _) (p := ⟨w.heap.size, 5, none⟩) HQe.out _) (p := ⟨w.heap.size, 0, none⟩) HQe.out _) (p := ⟨w.heap.size, 1, none⟩) HQe.out _) (p := ⟨w.heap.size, 2, none⟩) HQe.out _))
            have X3 := Aside0.mk (show Kd.V k23 23 wx 0 Q _ _ from by rw [hwx]; exact (Kd.V_far (Kd.V_far (Kd.V_far (Kd.V_far (Kd.V_far (Kd.V_nil k23 23 w2 0 Q) (p := ⟨w.heap.size, 4, none⟩) HQe.out _) (p := ⟨w.heap.size, 5, none⟩) HQe.out _) (p := ⟨w.heap.size, 0, none⟩) HQe.out _) (p := ⟨w.heap.size, 1, none⟩) HQe.out _) (p := ⟨w.heap.size, 2, none⟩) HQe.out _))
            have HWX := Aside0.mk hwx
            clear hwx
            go_upto_region 9 with (fail)
            rw [← HWX.out]
            clear hqe hqr d0 d1 d2 d3 d4 d5 d6 d7 d8 d9 s0 s1 r0 r1 r2 r3 r4 r5 r6 r7 r8 r9
            obtain ⟨d0, d1, d2, d3, d4, d5, d6, d7, d8, d9⟩ := ten_cells HEX.out
            have hqr := blk_frozen HRX.out
            obtain ⟨r0, r1, r2, r3, r4, r5, r6, r7, r8, r9⟩ := ten_cells HRX.out
            go_wp2_with (fail)
            obtain ⟨y1, y2, y3⟩ := put_edV (w := w) (W := wx) (s := { s with text := t, pos := p, mark := s.mark, undo := pushS s.undo ⟨s.text, s.pos⟩, redo := [] }) (rb := w.heap.size + 1 + 1) X1.out X2.out X3.out HQr.out HRX.out HBX.out (by omega)
            refine bodyPost_ret (results_cell_row rfl _ _ (w.heap.size + 1 + 1) 27 _ (0, 0) _ rfl y1 hu27 rfl (by first | rfl | decide)) rfl ?_
            exact ⟨_, rfl, y2.mono HQP.out, y3⟩
end Go.Proofs.Ytlbbjdggebgabaa.P
end

section
/- The reference's put and cut. -/
namespace Go.Proofs.Ytlbbjdggebgabaa.P
open Go.RowKit Go.Proofs.YtlbbjdggebgabaaW.PrintWords Go.Proofs.YtlbbjdggebgabaaW.PrintLast Go.Proofs.YtlbbjdggebgabaaW.PrintMore
set_option linter.unusedVariables false
set_option linter.unusedSimpArgs false

/-- What a boxed editor's function starts from: its own box, its result's box. -/
theorem box2 (w : World) (A B : Array Value) (t u : TypeId) : ((w.alloc (.cells A t)).alloc (.cells B u)).heap[w.heap.size]? = some (.cells A t (0, 0)) ∧ ((w.alloc (.cells A t)).alloc (.cells B u)).heap[w.heap.size + 1]? = some (.cells B u (0, 0)) ∧ Below w.heap.size w ((w.alloc (.cells A t)).alloc (.cells B u)) ∧ ((w.alloc (.cells A t)).alloc (.cells B u)).heap.size = w.heap.size + 1 + 1 :=
  ⟨blk_alloc (blk_new w _) _, blk_new2 w _ _ _, below_alloc (below_alloc (Below.refl _ _) _) _, by simp⟩
theorem EdV.opn {W : World} {P : Nat → Prop} {s : St} {v : Value} (h : EdV W P s v) : ∃ (Ak Au Ar : Option Addr) (ck cu cr : Nat), v = .agg #[.string s.text, .int .i64 s.pos, .int .i64 s.mark, .slice Ak s.kills.length ck, .slice Au s.undo.length cu, .slice Ar s.redo.length cr, .string s.keys, .int .i64 s.last, .int .i64 s.line, .string s.saved] ∧
    Kd.V Kd.string 9 W 0 P (.slice Ak s.kills.length ck) s.kills ∧ Kd.V k23 23 W 0 P (.slice Au s.undo.length cu) s.undo ∧ Kd.V k23 23 W 0 P (.slice Ar s.redo.length cr) s.redo := h

set_option maxHeartbeats 16000000 in
set_option maxRecDepth 100000 in
theorem rput_calls (w : World) (P : Nat → Prop) (s : St) (x : ByteArray) (a : Int) (v : Value) (hv : EdV w P s v) (ok : OkS s) (hm : s.mark ≤ s.text.size) (hx : x.size ≤ 1000000) :
    Calls Try.prog 45 #[v, .string x, .int .i64 a] w fun e w' => ∃ v', e = .returned v' ∧ EdV w' (fun k => P k ∨ w.heap.size ≤ k) (insertS s a x) v' ∧ Below w.heap.size w w' := by
  have hvo := hv.old
  obtain ⟨P0, hP0⟩ : ∃ Q : Nat → Prop, Q = fun k => P k ∧ k < w.heap.size := ⟨_, rfl⟩
  rw [← hP0] at hvo
  have hp1 : ∀ k, P0 k → P k ∧ k < w.heap.size := by intro k hk; rw [hP0] at hk; exact hk
  clear hP0
  obtain ⟨Ak, Au, Ar, ck, cu, cr, rfl, v1, v2, v3⟩ := hvo
  have hu27 := Try.underlying27
  have hu23 := Try.underlying23
  obtain ⟨w1, hw1⟩ : ∃ z, z = (w.alloc (.cells #[.string s.text, .int .i64 s.pos, .int .i64 s.mark, .slice Ak s.kills.length ck, .slice Au s.undo.length cu, .slice Ar s.redo.length cr, .string s.keys, .int .i64 s.last, .int .i64 s.line, .string s.saved] 27)).alloc (.cells #[.string ⟨#[]⟩, .int .i64 0, .int .i64 0, .slice none 0 0, .slice none 0 0, .slice none 0 0, .string ⟨#[]⟩, .int .i64 0, .int .i64 0, .string ⟨#[]⟩] 27) := ⟨_, rfl⟩
  obtain ⟨b1, b2, b3, b4⟩ := box2 w #[.string s.text, .int .i64 s.pos, .int .i64 s.mark, .slice Ak s.kills.length ck, .slice Au s.undo.length cu, .slice Ar s.redo.length cr, .string s.keys, .int .i64 s.last, .int .i64 s.line, .string s.saved] #[.string ⟨#[]⟩, .int .i64 0, .int .i64 0, .slice none 0 0, .slice none 0 0, .slice none 0 0, .string ⟨#[]⟩, .int .i64 0, .int .i64 0, .string ⟨#[]⟩] 27 27
  rw [← hw1] at b1 b2 b3 b4
  have HE := Aside0.mk b1
  have HR := Aside0.mk b2
  have HB1 := Aside0.mk b3
  have HSZ := Aside0.mk b4
  have HP1 := Aside0.mk hp1
  have HW1 := Aside0.mk hw1
  have HV := Aside0.mk (show EdV w1 P0 s (edV s (.slice Ak s.kills.length ck) (.slice Au s.undo.length cu) (.slice Ar s.redo.length cr)) from ⟨Ak, Au, Ar, ck, cu, cr, rfl, Kd.V_below v1 b3, Kd.V_below v2 b3, Kd.V_below v3 b3⟩)
  have K1 := Aside0.mk (Kd.V_below v1 b3)
  have K2 := Aside0.mk (Kd.V_below v2 b3)
  have K3 := Aside0.mk (Kd.V_below v3 b3)
  unfold edV at HV hv ⊢
  obtain ⟨d0, d1, d2, d3, d4, d5, d6, d7, d8, d9⟩ := Box.cells (s := s) b1
  clear hv v1 v2 v3 hw1 b1 b2 b3 b4 hp1
  have h0 := ok.low
  have h1 := ok.high
  have hs := ok.text
  have HOK := Aside0.mk ok
  obtain ⟨S, hS⟩ : ∃ z, z = (insertS s a x) := ⟨_, rfl⟩
  rw [← hS]
  have HS := Aside0.mk hS
  clear ok hS
  go_enter Try.func45, Try.ntmps45
  go_upto_region 1 with (fail)
  rw [← HW1.out]
  go_region
  go_upto_region 2 with (fail)
  go_region_with (first | (go_at_call 63; refine (redit_calls (w1.drew.drew) P0 s _ _ a _ (HV.out.below (below_drew (below_drew (Below.refl w1.heap.size w1)))) HOK.out.undo hm).mono ?_; rintro e w4 ⟨v4, rfl, hv4, hb⟩; have hbl := below_step (below_drew (below_drew (Below.refl w1.heap.size w1))) hb; have hv5 : EdV w4 (fun k => P0 k ∨ (w1.drew.drew).heap.size ≤ k) S v4 := (by rw [HS.out]; exact hv4); have HR4 := Aside0.mk (blk_below HR.out hbl); have HBL := Aside0.mk hbl; have hqr := blk_frozen HR4.out; obtain ⟨r0, r1, r2, r3, r4, r5, r6, r7, r8, r9⟩ := ten_cells HR4.out; obtain ⟨Ak4, Au4, Ar4, ck4, cu4, cr4, rfl, g1, g2, g3⟩ := hv5.opn; have G1 := Aside0.mk g1; have G2 := Aside0.mk g2; have G3 := Aside0.mk g3; clear hv4 hv5 hb hbl g1 g2 g3))
  all_goals
    go_wp2_with (fail)
    obtain ⟨y1, y2, y3⟩ := put_edV (w := w) (s := S) (rb := w.heap.size + 1) G1.out G2.out G3.out (fun k hk => by have h1 := HP1.out k; have h2 := HSZ.out; rcases hk with hk | hk; exact (by have := (h1 hk).2; omega); exact (by have h3 : w1.heap.size ≤ k := hk; omega)) HR4.out (below_step HB1.out HBL.out) (by omega)
    refine bodyPost_ret (results_cell_row rfl _ _ (w.heap.size + 1) 27 _ (0, 0) _ rfl y1 hu27 rfl (by first | rfl | decide)) rfl ?_
    exact ⟨_, rfl, y2.mono (fun k hk => by have h1 := HP1.out k; have h2 := HSZ.out; rcases hk with hk | hk; exact .inl (h1 hk).1; exact .inr (by have h3 : w1.heap.size ≤ k := hk; omega)), y3⟩

set_option maxHeartbeats 16000000 in
set_option maxRecDepth 100000 in
theorem rcut_calls (w : World) (P : Nat → Prop) (s : St) (i j : Int) (a : Int) (v : Value) (hv : EdV w P s v) (ok : OkS s) (hm : s.mark ≤ s.text.size) (hi0 : 0 ≤ i) (hi1 : i ≤ s.text.size) (hj0 : 0 ≤ j) (hj1 : j ≤ s.text.size) :
    Calls Try.prog 46 #[v, .int .i64 i, .int .i64 j, .int .i64 a] w fun e w' => ∃ v', e = .returned v' ∧ EdV w' (fun k => P k ∨ w.heap.size ≤ k) (setS s a (s.text.extract 0 i.toNat ++ s.text.extract j.toNat s.text.size) i).1 v' ∧ Below w.heap.size w w' := by
  have hvo := hv.old
  obtain ⟨P0, hP0⟩ : ∃ Q : Nat → Prop, Q = fun k => P k ∧ k < w.heap.size := ⟨_, rfl⟩
  rw [← hP0] at hvo
  have hp1 : ∀ k, P0 k → P k ∧ k < w.heap.size := by intro k hk; rw [hP0] at hk; exact hk
  clear hP0
  obtain ⟨Ak, Au, Ar, ck, cu, cr, rfl, v1, v2, v3⟩ := hvo
  have hu27 := Try.underlying27
  have hu23 := Try.underlying23
  obtain ⟨w1, hw1⟩ : ∃ z, z = (w.alloc (.cells #[.string s.text, .int .i64 s.pos, .int .i64 s.mark, .slice Ak s.kills.length ck, .slice Au s.undo.length cu, .slice Ar s.redo.length cr, .string s.keys, .int .i64 s.last, .int .i64 s.line, .string s.saved] 27)).alloc (.cells #[.string ⟨#[]⟩, .int .i64 0, .int .i64 0, .slice none 0 0, .slice none 0 0, .slice none 0 0, .string ⟨#[]⟩, .int .i64 0, .int .i64 0, .string ⟨#[]⟩] 27) := ⟨_, rfl⟩
  obtain ⟨b1, b2, b3, b4⟩ := box2 w #[.string s.text, .int .i64 s.pos, .int .i64 s.mark, .slice Ak s.kills.length ck, .slice Au s.undo.length cu, .slice Ar s.redo.length cr, .string s.keys, .int .i64 s.last, .int .i64 s.line, .string s.saved] #[.string ⟨#[]⟩, .int .i64 0, .int .i64 0, .slice none 0 0, .slice none 0 0, .slice none 0 0, .string ⟨#[]⟩, .int .i64 0, .int .i64 0, .string ⟨#[]⟩] 27 27
  rw [← hw1] at b1 b2 b3 b4
  have HE := Aside0.mk b1
  have HR := Aside0.mk b2
  have HB1 := Aside0.mk b3
  have HSZ := Aside0.mk b4
  have HP1 := Aside0.mk hp1
  have HW1 := Aside0.mk hw1
  have HV := Aside0.mk (show EdV w1 P0 s (edV s (.slice Ak s.kills.length ck) (.slice Au s.undo.length cu) (.slice Ar s.redo.length cr)) from ⟨Ak, Au, Ar, ck, cu, cr, rfl, Kd.V_below v1 b3, Kd.V_below v2 b3, Kd.V_below v3 b3⟩)
  have K1 := Aside0.mk (Kd.V_below v1 b3)
  have K2 := Aside0.mk (Kd.V_below v2 b3)
  have K3 := Aside0.mk (Kd.V_below v3 b3)
  unfold edV at HV hv ⊢
  obtain ⟨d0, d1, d2, d3, d4, d5, d6, d7, d8, d9⟩ := Box.cells (s := s) b1
  clear hv v1 v2 v3 hw1 b1 b2 b3 b4 hp1
  have h0 := ok.low
  have h1 := ok.high
  have hs := ok.text
  have HOK := Aside0.mk ok
  obtain ⟨S, hS⟩ : ∃ z, z = (setS s a (s.text.extract 0 i.toNat ++ s.text.extract j.toNat s.text.size) i).1 := ⟨_, rfl⟩
  rw [← hS]
  have HS := Aside0.mk hS
  clear ok hS
  go_enter Try.func46, Try.ntmps46
  go_upto_region 2 with (fail)
  rw [← HW1.out]
  go_region_with (first | (go_at_call 63; refine (redit_calls (w1.drew) P0 s _ _ a _ (HV.out.below (below_drew (Below.refl w1.heap.size w1))) HOK.out.undo hm).mono ?_; rintro e w4 ⟨v4, rfl, hv4, hb⟩; have hbl := below_step (below_drew (Below.refl w1.heap.size w1)) hb; have hv5 : EdV w4 (fun k => P0 k ∨ (w1.drew).heap.size ≤ k) S v4 := (by rw [HS.out]; exact hv4); have HR4 := Aside0.mk (blk_below HR.out hbl); have HBL := Aside0.mk hbl; have hqr := blk_frozen HR4.out; obtain ⟨r0, r1, r2, r3, r4, r5, r6, r7, r8, r9⟩ := ten_cells HR4.out; obtain ⟨Ak4, Au4, Ar4, ck4, cu4, cr4, rfl, g1, g2, g3⟩ := hv5.opn; have G1 := Aside0.mk g1; have G2 := Aside0.mk g2; have G3 := Aside0.mk g3; clear hv4 hv5 hb hbl g1 g2 g3))
  all_goals
    go_wp2_with (fail)
    obtain ⟨y1, y2, y3⟩ := put_edV (w := w) (s := S) (rb := w.heap.size + 1) G1.out G2.out G3.out (fun k hk => by have h1 := HP1.out k; have h2 := HSZ.out; rcases hk with hk | hk; exact (by have := (h1 hk).2; omega); exact (by have h3 : w1.heap.size ≤ k := hk; omega)) HR4.out (below_step HB1.out HBL.out) (by omega)
    refine bodyPost_ret (results_cell_row rfl _ _ (w.heap.size + 1) 27 _ (0, 0) _ rfl y1 hu27 rfl (by first | rfl | decide)) rfl ?_
    exact ⟨_, rfl, y2.mono (fun k hk => by have h1 := HP1.out k; have h2 := HSZ.out; rcases hk with hk | hk; exact .inl (h1 hk).1; exact .inr (by have h3 : w1.heap.size ≤ k := hk; omega)), y3⟩
end Go.Proofs.Ytlbbjdggebgabaa.P
end

section
/- The reference's show. -/
namespace Go.Proofs.Ytlbbjdggebgabaa.P
open Go.RowKit Go.Proofs.YtlbbjdggebgabaaW.PrintWords Go.Proofs.YtlbbjdggebgabaaW.PrintLast Go.Proofs.YtlbbjdggebgabaaW.PrintMore
set_option linter.unusedVariables false
set_option linter.unusedSimpArgs false

def showS (s : St) (x : ByteArray) : St := clampS { s with text := x, pos := (x.size : Int), undo := [], redo := [] }

set_option maxHeartbeats 16000000 in
set_option maxRecDepth 100000 in
theorem rshow_calls (w : World) (P : Nat → Prop) (s : St) (x : ByteArray) (v : Value) (hv : EdV w P s v) :
    Calls Try.prog 67 #[v, .string x] w fun e w' => ∃ v', e = .returned v' ∧ EdV w' (fun k => P k ∨ w.heap.size ≤ k) (showS s x) v' ∧ Below w.heap.size w w' := by
  have hvo := hv.old
  obtain ⟨P0, hP0⟩ : ∃ Q : Nat → Prop, Q = fun k => P k ∧ k < w.heap.size := ⟨_, rfl⟩
  rw [← hP0] at hvo
  have hp1 : ∀ k, P0 k → P k ∧ k < w.heap.size := by intro k hk; rw [hP0] at hk; exact hk
  clear hP0
  obtain ⟨Ak, Au, Ar, ck, cu, cr, rfl, v1, v2, v3⟩ := hvo
  have hu27 := Try.underlying27
  have hu23 := Try.underlying23
  obtain ⟨w1, hw1⟩ : ∃ z, z = (w.alloc (.cells #[.string s.text, .int .i64 s.pos, .int .i64 s.mark, .slice Ak s.kills.length ck, .slice Au s.undo.length cu, .slice Ar s.redo.length cr, .string s.keys, .int .i64 s.last, .int .i64 s.line, .string s.saved] 27)).alloc (.cells #[.string ⟨#[]⟩, .int .i64 0, .int .i64 0, .slice none 0 0, .slice none 0 0, .slice none 0 0, .string ⟨#[]⟩, .int .i64 0, .int .i64 0, .string ⟨#[]⟩] 27) := ⟨_, rfl⟩
  obtain ⟨b1, b2, b3, b4⟩ := box2 w #[.string s.text, .int .i64 s.pos, .int .i64 s.mark, .slice Ak s.kills.length ck, .slice Au s.undo.length cu, .slice Ar s.redo.length cr, .string s.keys, .int .i64 s.last, .int .i64 s.line, .string s.saved] #[.string ⟨#[]⟩, .int .i64 0, .int .i64 0, .slice none 0 0, .slice none 0 0, .slice none 0 0, .string ⟨#[]⟩, .int .i64 0, .int .i64 0, .string ⟨#[]⟩] 27 27
  rw [← hw1] at b1 b2 b3 b4
  have HE := Aside0.mk b1
  have HR := Aside0.mk b2
  have HB1 := Aside0.mk b3
  have HSZ := Aside0.mk b4
  have HP1 := Aside0.mk hp1
  have HW1 := Aside0.mk hw1
  have HV := Aside0.mk (show EdV w1 P0 s (edV s (.slice Ak s.kills.length ck) (.slice Au s.undo.length cu) (.slice Ar s.redo.length cr)) from ⟨Ak, Au, Ar, ck, cu, cr, rfl, Kd.V_below v1 b3, Kd.V_below v2 b3, Kd.V_below v3 b3⟩)
  have K1 := Aside0.mk (Kd.V_below v1 b3)
  have K2 := Aside0.mk (Kd.V_below v2 b3)
  have K3 := Aside0.mk (Kd.V_below v3 b3)
  unfold edV at HV hv ⊢
  obtain ⟨d0, d1, d2, d3, d4, d5, d6, d7, d8, d9⟩ := Box.cells (s := s) b1
  clear hv v1 v2 v3 hw1 b1 b2 b3 b4 hp1
  clear d0 d1 d2 d3 d4 d5 d6 d7 d8 d9
  unfold showS
  rcases clamp_cases { s with text := x, pos := (x.size : Int), undo := [], redo := [] } with ⟨hm1, hm2⟩ | ⟨hm1, hm2⟩
  · rw [hm2]
    have hm1' : (x.size : Int) < s.mark := hm1
    have hm3 : decide ((x.size : Int) < s.mark) = true := decide_eq_true hm1'
    clear hm1 hm2
    go_enter Try.func67, Try.ntmps67
    go_upto_region 1 with (fail)
    rw [← HW1.out]
    have hqe := blk_frozen HE.out
    obtain ⟨d0, d1, d2, d3, d4, d5, d6, d7, d8, d9⟩ := Box.cells (s := s) HE.out
    have hqr := blk_frozen HR.out
    obtain ⟨r0, r1, r2, r3, r4, r5, r6, r7, r8, r9⟩ := ten_cells HR.out
    obtain ⟨wx, hwx⟩ : ∃ z, z = (((((w1.setCell ⟨w.heap.size, 0, none⟩ (.string x)).setCell ⟨w.heap.size, 1, none⟩ (.int .i64 (x.size : Int))).setCell ⟨w.heap.size, 4, none⟩ (.slice none 0 0)).setCell ⟨w.heap.size, 5, none⟩ (.slice none 0 0)).setCell ⟨w.heap.size, 2, none⟩ (.int .i64 (x.size : Int))) := ⟨_, rfl⟩
    have HEX := Aside0.mk (show wx.heap[w.heap.size]? = some (.cells #[.string x, .int .i64 (x.size : Int), .int .i64 (x.size : Int), .slice Ak s.kills.length ck, .slice none 0 0, .slice none 0 0, .string s.keys, .int .i64 s.last, .int .i64 s.line, .string s.saved] 27 (0, 0)) from by rw [hwx]; exact (blk_put (cs' := #[.string x, .int .i64 (x.size : Int), .int .i64 (x.size : Int), .slice Ak s.kills.length ck, .slice none 0 0, .slice none 0 0, .string s.keys, .int .i64 s.last, .int .i64 s.line, .string s.saved]) (blk_put (cs' := #[.string x, .int .i64 (x.size : Int), .int .i64 s.mark, .slice Ak s.kills.length ck, .slice none 0 0, .slice none 0 0, .string s.keys, .int .i64 s.last, .int .i64 s.line, .string s.saved]) (blk_put (cs' := #[.string x, .int .i64 (x.size : Int), .int .i64 s.mark, .slice Ak s.kills.length ck, .slice none 0 0, .slice Ar s.redo.length cr, .string s.keys, .int .i64 s.last, .int .i64 s.line, .string s.saved]) (blk_put (cs' := #[.string x, .int .i64 (x.size : Int), .int .i64 s.mark, .slice Ak s.kills.length ck, .slice Au s.undo.length cu, .slice Ar s.redo.length cr, .string s.keys, .int .i64 s.last, .int .i64 s.line, .string s.saved]) (blk_put (cs' := #[.string x, .int .i64 s.pos, .int .i64 s.mark, .slice Ak s.kills.length ck, .slice Au s.undo.length cu, .slice Ar s.redo.length cr, .string s.keys, .int .i64 s.last, .int .i64 s.line, .string s.saved]) HE.out 0 (.string x) rfl) 1 (.int .i64 (x.size : Int)) rfl) 4 (.slice none 0 0) rfl) 5 (.slice none 0 0) rfl) 2 (.int .i64 (x.size : Int)) rfl))
    have HRX := Aside0.mk (show wx.heap[w.heap.size + 1]? = some (.cells #[.string ⟨#[]⟩, .int .i64 0, .int .i64 0, .slice none 0 0, .slice none 0 0, .slice none 0 0, .string ⟨#[]⟩, .int .i64 0, .int .i64 0, .string ⟨#[]⟩] 27 (0, 0)) from by rw [hwx]; exact (blk_far (blk_far (blk_far (blk_far (blk_far HR.out (p := ⟨w.heap.size, 0, none⟩) (by simp) _) (p := ⟨w.heap.size, 1, none⟩) (by simp) _) (p := ⟨w.heap.size, 4, none⟩) (by simp) _) (p := ⟨w.heap.size, 5, none⟩) (by simp) _) (p := ⟨w.heap.size, 2, none⟩) (by simp) _))
    have HBX := Aside0.mk (show Below w.heap.size w wx from by rw [hwx]; exact (below_set (below_set (below_set (below_set (below_set HB1.out (Nat.le_refl _)) (Nat.le_refl _)) (Nat.le_refl _)) (Nat.le_refl _)) (Nat.le_refl _)))
    have X1 := Aside0.mk (show Kd.V Kd.string 9 wx 0 P0 _ _ from by rw [hwx]; exact (Kd.V_far (Kd.V_far (Kd.V_far (Kd.V_far (Kd.V_far K1.out (p := ⟨w.heap.size, 0, none⟩) (fun k hk => by have := (HP1.out k hk).2; simp; omega) _) (p := ⟨w.heap.size, 1, none⟩) (fun k hk => by have := (HP1.out k hk).2; simp; omega) _) (p := ⟨w.heap.size, 4, none⟩) (fun k hk => by have := (HP1.out k hk).2; simp; omega) _) (p := ⟨w.heap.size, 5, none⟩) (fun k hk => by have := (HP1.out k hk).2; simp; omega) _) (p := ⟨w.heap.size, 2, none⟩) (fun k hk => by have := (HP1.out k hk).2; simp; omega) _))
    have X2 := Aside0.mk (show Kd.V k23 23 wx 0 P0 _ _ from by rw [hwx]; exact (Kd.V_far (Kd.V_far (Kd.V_far (Kd.V_far (Kd.V_far (Kd.V_nil k23 23 w1 0 P0) (p := ⟨w.heap.size, 0, none⟩) (fun k hk => by have := (HP1.out k hk).2; simp; omega) _) (p := ⟨w.heap.size, 1, none⟩) (fun k hk => by have := (HP1.out k hk).2; simp; omega) _) (p := ⟨w.heap.size, 4, none⟩) (fun k hk => by have := (HP1.out k hk).2; simp; omega) _) (p := ⟨w.heap.size, 5, none⟩) (fun k hk => by have := (HP1.out k hk).2; simp; omega) _) (p := ⟨w.heap.size, 2, none⟩) (fun k hk => by have := (HP1.out k hk).2; simp; omega) _))
    have X3 := Aside0.mk (show Kd.V k23 23 wx 0 P0 _ _ from by rw [hwx]; exact (Kd.V_far (Kd.V_far (Kd.V_far (Kd.V_far (Kd.V_far (Kd.V_nil k23 23 w1 0 P0) (p := ⟨w.heap.size, 0, none⟩) (fun k hk => by have := (HP1.out k hk).2; simp; omega) _) (p := ⟨w.heap.size, 1, none⟩) (fun k hk => by have := (HP1.out k hk).2; simp; omega) _) (p := ⟨w.heap.size, 4, none⟩) (fun k hk => by have := (HP1.out k hk).2; simp; omega) _) (p := ⟨w.heap.size, 5, none⟩) (fun k hk => by have := (HP1.out k hk).2; simp; omega) _) (p := ⟨w.heap.size, 2, none⟩) (fun k hk => by have := (HP1.out k hk).2; simp; omega) _))
    have HWX := Aside0.mk hwx
    clear hwx
    go_upto_region 4 with (fail)
    rw [← HWX.out]
    clear hqe hqr d0 d1 d2 d3 d4 d5 d6 d7 d8 d9 r0 r1 r2 r3 r4 r5 r6 r7 r8 r9
    obtain ⟨d0, d1, d2, d3, d4, d5, d6, d7, d8, d9⟩ := ten_cells HEX.out
    have hqr := blk_frozen HRX.out
    obtain ⟨r0, r1, r2, r3, r4, r5, r6, r7, r8, r9⟩ := ten_cells HRX.out
    go_wp2_with (fail)
    obtain ⟨y1, y2, y3⟩ := put_edV (w := w) (W := wx) (s := { s with text := x, pos := (x.size : Int), mark := (x.size : Int), undo := [], redo := [] }) (rb := w.heap.size + 1) X1.out X2.out X3.out (fun k hk => by have := (HP1.out k hk).2; omega) HRX.out HBX.out (by omega)
    refine bodyPost_ret (results_cell_row rfl _ _ (w.heap.size + 1) 27 _ (0, 0) _ rfl y1 hu27 rfl (by first | rfl | decide)) rfl ?_
    exact ⟨_, rfl, y2.mono (fun k hk => .inl (HP1.out k hk).1), y3⟩
  · rw [hm2]
    have hm1' : ¬ (x.size : Int) < s.mark := hm1
    have hm3 : decide ((x.size : Int) < s.mark) = false := decide_eq_false hm1'
    clear hm1 hm2
    go_enter Try.func67, Try.ntmps67
    go_upto_region 1 with (fail)
    rw [← HW1.out]
    have hqe := blk_frozen HE.out
    obtain ⟨d0, d1, d2, d3, d4, d5, d6, d7, d8, d9⟩ := Box.cells (s := s) HE.out
    have hqr := blk_frozen HR.out
    obtain ⟨r0, r1, r2, r3, r4, r5, r6, r7, r8, r9⟩ := ten_cells HR.out
    obtain ⟨wx, hwx⟩ : ∃ z, z = (((((w1.setCell ⟨w.heap.size, 0, none⟩ (.string x)).setCell ⟨w.heap.size, 1, none⟩ (.int .i64 (x.size : Int))).setCell ⟨w.heap.size, 4, none⟩ (.slice none 0 0)).setCell ⟨w.heap.size, 5, none⟩ (.slice none 0 0)).setCell ⟨w.heap.size, 2, none⟩ (.int .i64 s.mark)) := ⟨_, rfl⟩
    have HEX := Aside0.mk (show wx.heap[w.heap.size]? = some (.cells #[.string x, .int .i64 (x.size : Int), .int .i64 s.mark, .slice Ak s.kills.length ck, .slice none 0 0, .slice none 0 0, .string s.keys, .int .i64 s.last, .int .i64 s.line, .string s.saved] 27 (0, 0)) from by rw [hwx]; exact (blk_put (cs' := #[.string x, .int .i64 (x.size : Int), .int .i64 s.mark, .slice Ak s.kills.length ck, .slice none 0 0, .slice none 0 0, .string s.keys, .int .i64 s.last, .int .i64 s.line, .string s.saved]) (blk_put (cs' := #[.string x, .int .i64 (x.size : Int), .int .i64 s.mark, .slice Ak s.kills.length ck, .slice none 0 0, .slice none 0 0, .string s.keys, .int .i64 s.last, .int .i64 s.line, .string s.saved]) (blk_put (cs' := #[.string x, .int .i64 (x.size : Int), .int .i64 s.mark, .slice Ak s.kills.length ck, .slice none 0 0, .slice Ar s.redo.length cr, .string s.keys, .int .i64 s.last, .int .i64 s.line, .string s.saved]) (blk_put (cs' := #[.string x, .int .i64 (x.size : Int), .int .i64 s.mark, .slice Ak s.kills.length ck, .slice Au s.undo.length cu, .slice Ar s.redo.length cr, .string s.keys, .int .i64 s.last, .int .i64 s.line, .string s.saved]) (blk_put (cs' := #[.string x, .int .i64 s.pos, .int .i64 s.mark, .slice Ak s.kills.length ck, .slice Au s.undo.length cu, .slice Ar s.redo.length cr, .string s.keys, .int .i64 s.last, .int .i64 s.line, .string s.saved]) HE.out 0 (.string x) rfl) 1 (.int .i64 (x.size : Int)) rfl) 4 (.slice none 0 0) rfl) 5 (.slice none 0 0) rfl) 2 (.int .i64 s.mark) rfl))
    have HRX := Aside0.mk (show wx.heap[w.heap.size + 1]? = some (.cells #[.string ⟨#[]⟩, .int .i64 0, .int .i64 0, .slice none 0 0, .slice none 0 0, .slice none 0 0, .string ⟨#[]⟩, .int .i64 0, .int .i64 0, .string ⟨#[]⟩] 27 (0, 0)) from by rw [hwx]; exact (blk_far (blk_far (blk_far (blk_far (blk_far HR.out (p := ⟨w.heap.size, 0, none⟩) (by simp) _) (p := ⟨w.heap.size, 1, none⟩) (by simp) _) (p := ⟨w.heap.size, 4, none⟩) (by simp) _) (p := ⟨w.heap.size, 5, none⟩) (by simp) _) (p := ⟨w.heap.size, 2, none⟩) (by simp) _))
    have HBX := Aside0.mk (show Below w.heap.size w wx from by rw [hwx]; exact (below_set (below_set (below_set (below_set (below_set HB1.out (Nat.le_refl _)) (Nat.le_refl _)) (Nat.le_refl _)) (Nat.le_refl _)) (Nat.le_refl _)))
    have X1 := Aside0.mk (show Kd.V Kd.string 9 wx 0 P0 _ _ from by rw [hwx]; exact (Kd.V_far (Kd.V_far (Kd.V_far (Kd.V_far (Kd.V_far K1.out (p := ⟨w.heap.size, 0, none⟩) (fun k hk => by have := (HP1.out k hk).2; simp; omega) _) (p := ⟨w.heap.size, 1, none⟩) (fun k hk => by have := (HP1.out k hk).2; simp; omega) _) (p := ⟨w.heap.size, 4, none⟩) (fun k hk => by have := (HP1.out k hk).2; simp; omega) _) (p := ⟨w.heap.size, 5, none⟩) (fun k hk => by have := (HP1.out k hk).2; simp; omega) _) (p := ⟨w.heap.size, 2, none⟩) (fun k hk => by have := (HP1.out k hk).2; simp; omega) _))
    have X2 := Aside0.mk (show Kd.V k23 23 wx 0 P0 _ _ from by rw [hwx]; exact (Kd.V_far (Kd.V_far (Kd.V_far (Kd.V_far (Kd.V_far (Kd.V_nil k23 23 w1 0 P0) (p := ⟨w.heap.size, 0, none⟩) (fun k hk => by have := (HP1.out k hk).2; simp; omega) _) (p := ⟨w.heap.size, 1, none⟩) (fun k hk => by have := (HP1.out k hk).2; simp; omega) _) (p := ⟨w.heap.size, 4, none⟩) (fun k hk => by have := (HP1.out k hk).2; simp; omega) _) (p := ⟨w.heap.size, 5, none⟩) (fun k hk => by have := (HP1.out k hk).2; simp; omega) _) (p := ⟨w.heap.size, 2, none⟩) (fun k hk => by have := (HP1.out k hk).2; simp; omega) _))
    have X3 := Aside0.mk (show Kd.V k23 23 wx 0 P0 _ _ from by rw [hwx]; exact (Kd.V_far (Kd.V_far (Kd.V_far (Kd.V_far (Kd.V_far (Kd.V_nil k23 23 w1 0 P0) (p := ⟨w.heap.size, 0, none⟩) (fun k hk => by have := (HP1.out k hk).2; simp; omega) _) (p := ⟨w.heap.size, 1, none⟩) (fun k hk => by have := (HP1.out k hk).2; simp; omega) _) (p := ⟨w.heap.size, 4, none⟩) (fun k hk => by have := (HP1.out k hk).2; simp; omega) _) (p := ⟨w.heap.size, 5, none⟩) (fun k hk => by have := (HP1.out k hk).2; simp; omega) _) (p := ⟨w.heap.size, 2, none⟩) (fun k hk => by have := (HP1.out k hk).2; simp; omega) _))
    have HWX := Aside0.mk hwx
    clear hwx
    go_upto_region 4 with (fail)
    rw [← HWX.out]
    clear hqe hqr d0 d1 d2 d3 d4 d5 d6 d7 d8 d9 r0 r1 r2 r3 r4 r5 r6 r7 r8 r9
    obtain ⟨d0, d1, d2, d3, d4, d5, d6, d7, d8, d9⟩ := ten_cells HEX.out
    have hqr := blk_frozen HRX.out
    obtain ⟨r0, r1, r2, r3, r4, r5, r6, r7, r8, r9⟩ := ten_cells HRX.out
    go_wp2_with (fail)
    obtain ⟨y1, y2, y3⟩ := put_edV (w := w) (W := wx) (s := { s with text := x, pos := (x.size : Int), mark := s.mark, undo := [], redo := [] }) (rb := w.heap.size + 1) X1.out X2.out X3.out (fun k hk => by have := (HP1.out k hk).2; omega) HRX.out HBX.out (by omega)
    refine bodyPost_ret (results_cell_row rfl _ _ (w.heap.size + 1) 27 _ (0, 0) _ rfl y1 hu27 rfl (by first | rfl | decide)) rfl ?_
    exact ⟨_, rfl, y2.mono (fun k hk => .inl (HP1.out k hk).1), y3⟩
end Go.Proofs.Ytlbbjdggebgabaa.P
end

section
/- The reference's up and down. -/
namespace Go.Proofs.Ytlbbjdggebgabaa.P
open Go.RowKit Go.Proofs.YtlbbjdggebgabaaW.PrintWords Go.Proofs.YtlbbjdggebgabaaW.PrintLast Go.Proofs.YtlbbjdggebgabaaW.PrintMore
set_option linter.unusedVariables false
set_option linter.unusedSimpArgs false

theorem up_line (s : St) (T : ByteArray) (h0 : 0 ≤ s.line) (hT : T = nthLast s.lines (s.line + 1)) (hs : ¬ (T.size : Int) > 4096) (hl : s.line < (s.lines.length : Int)) (h1 : s.line < 128) :
    upS s = showS { s with saved := (if s.line = 0 then s.text else s.saved), line := s.line + 1 } T := by
  unfold upS lineS
  have e : lineText s (s.line + 1) = T := by unfold lineText; rw [if_pos (by omega), hT]
  rw [if_pos ⟨hl, h1⟩, e, if_neg hs, if_neg (by omega)]
  rfl
theorem up_same (s : St) (T : ByteArray) (h0 : 0 ≤ s.line) (hT : T = nthLast s.lines (s.line + 1)) (h : ¬ s.line < (s.lines.length : Int) ∨ (T.size : Int) > 4096 ∨ ¬ s.line < 128) : upS s = s := by
  unfold upS
  split
  · rename_i h2
    unfold lineS
    have e : lineText s (s.line + 1) = T := by unfold lineText; rw [if_pos (by omega), hT]
    rw [e]
    rcases h with h | h | h
    · exact absurd h2.1 h
    · rw [if_pos h]
    · exact absurd h2.2 h
  · rfl

set_option maxHeartbeats 16000000 in
set_option maxRecDepth 100000 in
theorem rup_calls (w : World) (P : Nat → Prop) (s : St) (Al : Option Addr) (cl : Nat) (v : Value) (hv : EdV w P s v) (ok : OkS s) (hC : Kd.C Kd.string w Al s.lines.length s.lines) :
    Calls Try.prog 53 #[v, .slice Al s.lines.length cl] w fun e w' => ∃ v', e = .returned v' ∧ EdV w' (fun k => P k ∨ w.heap.size ≤ k) (upS s) v' ∧ Below w.heap.size w w' := by
  have hvo := hv.old
  obtain ⟨P0, hP0⟩ : ∃ Q : Nat → Prop, Q = fun k => P k ∧ k < w.heap.size := ⟨_, rfl⟩
  rw [← hP0] at hvo
  have hp1 : ∀ k, P0 k → P k ∧ k < w.heap.size := by intro k hk; rw [hP0] at hk; exact hk
  clear hP0
  obtain ⟨Ak, Au, Ar, ck, cu, cr, rfl, v1, v2, v3⟩ := hvo
  have hu27 := Try.underlying27
  have hu23 := Try.underlying23
  obtain ⟨w1, hw1⟩ : ∃ z, z = (w.alloc (.cells #[.string s.text, .int .i64 s.pos, .int .i64 s.mark, .slice Ak s.kills.length ck, .slice Au s.undo.length cu, .slice Ar s.redo.length cr, .string s.keys, .int .i64 s.last, .int .i64 s.line, .string s.saved] 27)).alloc (.cells #[.string ⟨#[]⟩, .int .i64 0, .int .i64 0, .slice none 0 0, .slice none 0 0, .slice none 0 0, .string ⟨#[]⟩, .int .i64 0, .int .i64 0, .string ⟨#[]⟩] 27) := ⟨_, rfl⟩
  obtain ⟨b1, b2, b3, b4⟩ := box2 w #[.string s.text, .int .i64 s.pos, .int .i64 s.mark, .slice Ak s.kills.length ck, .slice Au s.undo.length cu, .slice Ar s.redo.length cr, .string s.keys, .int .i64 s.last, .int .i64 s.line, .string s.saved] #[.string ⟨#[]⟩, .int .i64 0, .int .i64 0, .slice none 0 0, .slice none 0 0, .slice none 0 0, .string ⟨#[]⟩, .int .i64 0, .int .i64 0, .string ⟨#[]⟩] 27 27
  rw [← hw1] at b1 b2 b3 b4
  have HE := Aside0.mk b1
  have HR := Aside0.mk b2
  have HB1 := Aside0.mk b3
  have HSZ := Aside0.mk b4
  have HP1 := Aside0.mk hp1
  have HW1 := Aside0.mk hw1
  have HV := Aside0.mk (show EdV w1 P0 s (edV s (.slice Ak s.kills.length ck) (.slice Au s.undo.length cu) (.slice Ar s.redo.length cr)) from ⟨Ak, Au, Ar, ck, cu, cr, rfl, Kd.V_below v1 b3, Kd.V_below v2 b3, Kd.V_below v3 b3⟩)
  have K1 := Aside0.mk (Kd.V_below v1 b3)
  have K2 := Aside0.mk (Kd.V_below v2 b3)
  have K3 := Aside0.mk (Kd.V_below v3 b3)
  unfold edV at HV hv ⊢
  obtain ⟨d0, d1, d2, d3, d4, d5, d6, d7, d8, d9⟩ := Box.cells (s := s) b1
  clear hv v1 v2 v3 hw1 b1 b2 b3 b4 hp1
  clear d0 d1 d2 d3 d4 d5 d6 d7 d8 d9
  have hl0 := ok.line0
  have hl1 := ok.line1
  have hln := ok.lines
  have KC := Aside0.mk (Kd.C_below hC HB1.out)
  obtain ⟨T, hT⟩ : ∃ z, z = nthLast s.lines (s.line + 1) := ⟨_, rfl⟩
  by_cases c1 : s.line < (s.lines.length : Int)
  · have hcw := KC.out
    rcases Al with _ | ad
    · obtain ⟨ad, _, ha, _⟩ := Kd.C_get hcw ByteArray.empty 0 (by omega) (by omega)
      cases ha
    have hcell := Kd.foot_string hcw ((s.lines.length : Int) - 1 - s.line) (by omega) (by omega)
    rw [show rdOf ByteArray.empty s.lines ((s.lines.length : Int) - 1 - s.line) = T by rw [hT, nthLast]; congr 1; omega] at hcell
    have g1 : decide ((s.lines.length : Int) ≤ s.line) = false := decide_eq_false (by omega)
    by_cases c2 : (T.size : Int) > 4096
    · rw [up_same s T hl0 hT (.inr (.inl c2))]
      have g2 : decide (4096 < (T.size : Int)) = true := decide_eq_true c2
      have g2' : decide (4096 < T.size) = true := decide_eq_true (by omega)
      clear hcw hT hC ok c2
      go_enter Try.func53, Try.ntmps53
      go_upto_region 1 with (fail)
      rw [← HW1.out]
      have hqe := blk_frozen HE.out
      obtain ⟨d0, d1, d2, d3, d4, d5, d6, d7, d8, d9⟩ := Box.cells (s := s) HE.out
      have hqr := blk_frozen HR.out
      obtain ⟨r0, r1, r2, r3, r4, r5, r6, r7, r8, r9⟩ := ten_cells HR.out
      go_wp2_with (fail)
      obtain ⟨y1, y2, y3⟩ := put_edV (w := w) (s := s) (rb := w.heap.size + 1) K1.out K2.out K3.out (fun k hk => by have := (HP1.out k hk).2; omega) HR.out HB1.out (by omega)
      refine bodyPost_ret (results_cell_row rfl _ _ (w.heap.size + 1) 27 _ (0, 0) _ rfl y1 hu27 rfl (by first | rfl | decide)) rfl ?_
      exact ⟨_, rfl, y2.mono (fun k hk => .inl (HP1.out k hk).1), y3⟩
    · have g2 : decide (4096 < (T.size : Int)) = false := decide_eq_false c2
      have g2' : decide (4096 < T.size) = false := decide_eq_false (by omega)
      by_cases c3 : s.line < 128
      · have g3 : decide (128 ≤ s.line) = false := decide_eq_false (by omega)
        rw [up_line s T hl0 hT c2 c1 c3]
        by_cases c4 : s.line = 0
        · rw [if_pos c4]
          have g4 : (s.line == 0) = true := beq_iff_eq.mpr c4
          have HT := Aside0.mk hT
          obtain ⟨S, hS⟩ : ∃ z, z = showS { s with saved := s.text, line := s.line + 1 } T := ⟨_, rfl⟩
          rw [← hS]
          have HS := Aside0.mk hS
          clear hcw hT ok c2 c3 c4 hS
          go_enter Try.func53, Try.ntmps53
          go_upto_region 1 with (fail)
          rw [← HW1.out]
          have hqe := blk_frozen HE.out
          obtain ⟨d0, d1, d2, d3, d4, d5, d6, d7, d8, d9⟩ := Box.cells (s := s) HE.out
          have hqr := blk_frozen HR.out
          obtain ⟨r0, r1, r2, r3, r4, r5, r6, r7, r8, r9⟩ := ten_cells HR.out
          obtain ⟨wx, hwx⟩ : ∃ z, z = ((w1.setCell ⟨w.heap.size, 9, none⟩ (.string s.text)).setCell ⟨w.heap.size, 8, none⟩ (.int .i64 (s.line + 1))) := ⟨_, rfl⟩
          have hszx : wx.heap.size = w.heap.size + 1 + 1 := by rw [hwx]; simp [World.setCell]; exact HSZ.out
          have HEX := Aside0.mk (show wx.heap[w.heap.size]? = some (.cells #[.string s.text, .int .i64 s.pos, .int .i64 s.mark, .slice Ak s.kills.length ck, .slice Au s.undo.length cu, .slice Ar s.redo.length cr, .string s.keys, .int .i64 s.last, .int .i64 (s.line + 1), .string s.text] 27 (0, 0)) from by rw [hwx]; exact (blk_put (cs' := #[.string s.text, .int .i64 s.pos, .int .i64 s.mark, .slice Ak s.kills.length ck, .slice Au s.undo.length cu, .slice Ar s.redo.length cr, .string s.keys, .int .i64 s.last, .int .i64 (s.line + 1), .string s.text]) (blk_put (cs' := #[.string s.text, .int .i64 s.pos, .int .i64 s.mark, .slice Ak s.kills.length ck, .slice Au s.undo.length cu, .slice Ar s.redo.length cr, .string s.keys, .int .i64 s.last, .int .i64 s.line, .string s.text]) HE.out 9 (.string s.text) rfl) 8 (.int .i64 (s.line + 1)) rfl))
          have HRX := Aside0.mk (show wx.heap[w.heap.size + 1]? = some (.cells #[.string ⟨#[]⟩, .int .i64 0, .int .i64 0, .slice none 0 0, .slice none 0 0, .slice none 0 0, .string ⟨#[]⟩, .int .i64 0, .int .i64 0, .string ⟨#[]⟩] 27 (0, 0)) from by rw [hwx]; exact (blk_far (blk_far HR.out (p := ⟨w.heap.size, 9, none⟩) (by simp) _) (p := ⟨w.heap.size, 8, none⟩) (by simp) _))
          have HBX := Aside0.mk (show Below w.heap.size w wx from by rw [hwx]; exact (below_set (below_set HB1.out (Nat.le_refl _)) (Nat.le_refl _)))
          have XV := Aside0.mk (show EdV wx P0 { s with saved := s.text, line := s.line + 1 } (.agg #[.string s.text, .int .i64 s.pos, .int .i64 s.mark, .slice Ak s.kills.length ck, .slice Au s.undo.length cu, .slice Ar s.redo.length cr, .string s.keys, .int .i64 s.last, .int .i64 (s.line + 1), .string s.text]) from ⟨_, _, _, _, _, _, rfl, (by rw [hwx]; exact (Kd.V_far (Kd.V_far K1.out (p := ⟨w.heap.size, 9, none⟩) (fun k hk => by have := (HP1.out k hk).2; simp; omega) _) (p := ⟨w.heap.size, 8, none⟩) (fun k hk => by have := (HP1.out k hk).2; simp; omega) _)), (by rw [hwx]; exact (Kd.V_far (Kd.V_far K2.out (p := ⟨w.heap.size, 9, none⟩) (fun k hk => by have := (HP1.out k hk).2; simp; omega) _) (p := ⟨w.heap.size, 8, none⟩) (fun k hk => by have := (HP1.out k hk).2; simp; omega) _)), (by rw [hwx]; exact (Kd.V_far (Kd.V_far K3.out (p := ⟨w.heap.size, 9, none⟩) (fun k hk => by have := (HP1.out k hk).2; simp; omega) _) (p := ⟨w.heap.size, 8, none⟩) (fun k hk => by have := (HP1.out k hk).2; simp; omega) _))⟩)
          have HSZX := Aside0.mk hszx
          have HWX := Aside0.mk hwx
          clear hwx hszx
          go_upto_region 6 with (fail)
          rw [← HWX.out]
          clear hqe hqr hcell d0 d1 d2 d3 d4 d5 d6 d7 d8 d9 r0 r1 r2 r3 r4 r5 r6 r7 r8 r9
          obtain ⟨d0, d1, d2, d3, d4, d5, d6, d7, d8, d9⟩ := ten_cells HEX.out
          have hcx := Kd.foot_string (Kd.C_below hC HBX.out) ((s.lines.length : Int) - (s.line + 1)) (by omega) (by omega)
          rw [show rdOf ByteArray.empty s.lines ((s.lines.length : Int) - (s.line + 1)) = T by rw [HT.out]; rfl] at hcx
          have hw1 : IntKind.i64.wrap ((s.lines.length : Int) - (s.line + 1)) = (s.lines.length : Int) - (s.line + 1) := by rw [IntKind.wrap_i64]; omega
          have hw2 : 0 ≤ (s.lines.length : Int) - (s.line + 1) := by omega
          have hw3 : (s.lines.length : Int) - (s.line + 1) < (s.lines.length : Int) := by omega
          go_region_with (first | (go_at_call 67; refine (rshow_calls (wx.drew) P0 { s with saved := s.text, line := s.line + 1 } T _ (XV.out.below (below_drew (Below.refl wx.heap.size wx)))).mono ?_; rintro e w4 ⟨v4, rfl, hv4, hb⟩; have hbl := below_step (below_drew (Below.refl wx.heap.size wx)) hb; have hv5 : EdV w4 (fun k => P0 k ∨ (wx.drew).heap.size ≤ k) S v4 := (by rw [HS.out]; exact hv4); have HR4 := Aside0.mk (blk_below HRX.out hbl); have HBL := Aside0.mk hbl; have hqr := blk_frozen HR4.out; obtain ⟨r0, r1, r2, r3, r4, r5, r6, r7, r8, r9⟩ := ten_cells HR4.out; obtain ⟨Ak4, Au4, Ar4, ck4, cu4, cr4, rfl, g1, g2, g3⟩ := hv5.opn; have G1 := Aside0.mk g1; have G2 := Aside0.mk g2; have G3 := Aside0.mk g3; clear hv4 hv5 hb hbl g1 g2 g3))
          all_goals
            go_wp2_with (fail)
            obtain ⟨y1, y2, y3⟩ := put_edV (w := w) (s := S) (rb := w.heap.size + 1) G1.out G2.out G3.out (fun k hk => by have h1 := HP1.out k; have h2 := HSZX.out; rcases hk with hk | hk; exact (by have := (h1 hk).2; omega); exact (by have h3 : wx.heap.size ≤ k := hk; omega)) HR4.out (below_step HBX.out HBL.out) (by omega)
            refine bodyPost_ret (results_cell_row rfl _ _ (w.heap.size + 1) 27 _ (0, 0) _ rfl y1 hu27 rfl (by first | rfl | decide)) rfl ?_
            exact ⟨_, rfl, y2.mono (fun k hk => by have h1 := HP1.out k; have h2 := HSZX.out; rcases hk with hk | hk; exact .inl (h1 hk).1; exact .inr (by have h3 : wx.heap.size ≤ k := hk; omega)), y3⟩
        · rw [if_neg c4]
          have g4 : (s.line == 0) = false := beq_eq_false_iff_ne.mpr c4
          have HT := Aside0.mk hT
          obtain ⟨S, hS⟩ : ∃ z, z = showS { s with saved := s.saved, line := s.line + 1 } T := ⟨_, rfl⟩
          rw [← hS]
          have HS := Aside0.mk hS
          clear hcw hT ok c2 c3 c4 hS
          go_enter Try.func53, Try.ntmps53
          go_upto_region 1 with (fail)
          rw [← HW1.out]
          have hqe := blk_frozen HE.out
          obtain ⟨d0, d1, d2, d3, d4, d5, d6, d7, d8, d9⟩ := Box.cells (s := s) HE.out
          have hqr := blk_frozen HR.out
          obtain ⟨r0, r1, r2, r3, r4, r5, r6, r7, r8, r9⟩ := ten_cells HR.out
          obtain ⟨wx, hwx⟩ : ∃ z, z = (w1.setCell ⟨w.heap.size, 8, none⟩ (.int .i64 (s.line + 1))) := ⟨_, rfl⟩
          have hszx : wx.heap.size = w.heap.size + 1 + 1 := by rw [hwx]; simp [World.setCell]; exact HSZ.out
          have HEX := Aside0.mk (show wx.heap[w.heap.size]? = some (.cells #[.string s.text, .int .i64 s.pos, .int .i64 s.mark, .slice Ak s.kills.length ck, .slice Au s.undo.length cu, .slice Ar s.redo.length cr, .string s.keys, .int .i64 s.last, .int .i64 (s.line + 1), .string s.saved] 27 (0, 0)) from by rw [hwx]; exact (blk_put (cs' := #[.string s.text, .int .i64 s.pos, .int .i64 s.mark, .slice Ak s.kills.length ck, .slice Au s.undo.length cu, .slice Ar s.redo.length cr, .string s.keys, .int .i64 s.last, .int .i64 (s.line + 1), .string s.saved]) HE.out 8 (.int .i64 (s.line + 1)) rfl))
          have HRX := Aside0.mk (show wx.heap[w.heap.size + 1]? = some (.cells #[.string ⟨#[]⟩, .int .i64 0, .int .i64 0, .slice none 0 0, .slice none 0 0, .slice none 0 0, .string ⟨#[]⟩, .int .i64 0, .int .i64 0, .string ⟨#[]⟩] 27 (0, 0)) from by rw [hwx]; exact (blk_far HR.out (p := ⟨w.heap.size, 8, none⟩) (by simp) _))
          have HBX := Aside0.mk (show Below w.heap.size w wx from by rw [hwx]; exact (below_set HB1.out (Nat.le_refl _)))
          have XV := Aside0.mk (show EdV wx P0 { s with saved := s.saved, line := s.line + 1 } (.agg #[.string s.text, .int .i64 s.pos, .int .i64 s.mark, .slice Ak s.kills.length ck, .slice Au s.undo.length cu, .slice Ar s.redo.length cr, .string s.keys, .int .i64 s.last, .int .i64 (s.line + 1), .string s.saved]) from ⟨_, _, _, _, _, _, rfl, (by rw [hwx]; exact (Kd.V_far K1.out (p := ⟨w.heap.size, 8, none⟩) (fun k hk => by have := (HP1.out k hk).2; simp; omega) _)), (by rw [hwx]; exact (Kd.V_far K2.out (p := ⟨w.heap.size, 8, none⟩) (fun k hk => by have := (HP1.out k hk).2; simp; omega) _)), (by rw [hwx]; exact (Kd.V_far K3.out (p := ⟨w.heap.size, 8, none⟩) (fun k hk => by have := (HP1.out k hk).2; simp; omega) _))⟩)
          have HSZX := Aside0.mk hszx
          have HWX := Aside0.mk hwx
          clear hwx hszx
          go_upto_region 6 with (fail)
          rw [← HWX.out]
          clear hqe hqr hcell d0 d1 d2 d3 d4 d5 d6 d7 d8 d9 r0 r1 r2 r3 r4 r5 r6 r7 r8 r9
          obtain ⟨d0, d1, d2, d3, d4, d5, d6, d7, d8, d9⟩ := ten_cells HEX.out
          have hcx := Kd.foot_string (Kd.C_below hC HBX.out) ((s.lines.length : Int) - (s.line + 1)) (by omega) (by omega)
          rw [show rdOf ByteArray.empty s.lines ((s.lines.length : Int) - (s.line + 1)) = T by rw [HT.out]; rfl] at hcx
          have hw1 : IntKind.i64.wrap ((s.lines.length : Int) - (s.line + 1)) = (s.lines.length : Int) - (s.line + 1) := by rw [IntKind.wrap_i64]; omega
          have hw2 : 0 ≤ (s.lines.length : Int) - (s.line + 1) := by omega
          have hw3 : (s.lines.length : Int) - (s.line + 1) < (s.lines.length : Int) := by omega
          go_region_with (first | (go_at_call 67; refine (rshow_calls (wx.drew) P0 { s with saved := s.saved, line := s.line + 1 } T _ (XV.out.below (below_drew (Below.refl wx.heap.size wx)))).mono ?_; rintro e w4 ⟨v4, rfl, hv4, hb⟩; have hbl := below_step (below_drew (Below.refl wx.heap.size wx)) hb; have hv5 : EdV w4 (fun k => P0 k ∨ (wx.drew).heap.size ≤ k) S v4 := (by rw [HS.out]; exact hv4); have HR4 := Aside0.mk (blk_below HRX.out hbl); have HBL := Aside0.mk hbl; have hqr := blk_frozen HR4.out; obtain ⟨r0, r1, r2, r3, r4, r5, r6, r7, r8, r9⟩ := ten_cells HR4.out; obtain ⟨Ak4, Au4, Ar4, ck4, cu4, cr4, rfl, g1, g2, g3⟩ := hv5.opn; have G1 := Aside0.mk g1; have G2 := Aside0.mk g2; have G3 := Aside0.mk g3; clear hv4 hv5 hb hbl g1 g2 g3))
          all_goals
            go_wp2_with (fail)
            obtain ⟨y1, y2, y3⟩ := put_edV (w := w) (s := S) (rb := w.heap.size + 1) G1.out G2.out G3.out (fun k hk => by have h1 := HP1.out k; have h2 := HSZX.out; rcases hk with hk | hk; exact (by have := (h1 hk).2; omega); exact (by have h3 : wx.heap.size ≤ k := hk; omega)) HR4.out (below_step HBX.out HBL.out) (by omega)
            refine bodyPost_ret (results_cell_row rfl _ _ (w.heap.size + 1) 27 _ (0, 0) _ rfl y1 hu27 rfl (by first | rfl | decide)) rfl ?_
            exact ⟨_, rfl, y2.mono (fun k hk => by have h1 := HP1.out k; have h2 := HSZX.out; rcases hk with hk | hk; exact .inl (h1 hk).1; exact .inr (by have h3 : wx.heap.size ≤ k := hk; omega)), y3⟩
      · rw [up_same s T hl0 hT (.inr (.inr c3))]
        have g3 : decide (128 ≤ s.line) = true := decide_eq_true (by omega)
        clear hcw hT hC ok c2 c3
        go_enter Try.func53, Try.ntmps53
        go_upto_region 1 with (fail)
        rw [← HW1.out]
        have hqe := blk_frozen HE.out
        obtain ⟨d0, d1, d2, d3, d4, d5, d6, d7, d8, d9⟩ := Box.cells (s := s) HE.out
        have hqr := blk_frozen HR.out
        obtain ⟨r0, r1, r2, r3, r4, r5, r6, r7, r8, r9⟩ := ten_cells HR.out
        go_wp2_with (fail)
        obtain ⟨y1, y2, y3⟩ := put_edV (w := w) (s := s) (rb := w.heap.size + 1) K1.out K2.out K3.out (fun k hk => by have := (HP1.out k hk).2; omega) HR.out HB1.out (by omega)
        refine bodyPost_ret (results_cell_row rfl _ _ (w.heap.size + 1) 27 _ (0, 0) _ rfl y1 hu27 rfl (by first | rfl | decide)) rfl ?_
        exact ⟨_, rfl, y2.mono (fun k hk => .inl (HP1.out k hk).1), y3⟩
  · rw [up_same s T hl0 hT (.inl c1)]
    have g1 : decide ((s.lines.length : Int) ≤ s.line) = true := decide_eq_true (by omega)
    clear hT hC ok c1
    go_enter Try.func53, Try.ntmps53
    go_upto_region 1 with (fail)
    rw [← HW1.out]
    have hqe := blk_frozen HE.out
    obtain ⟨d0, d1, d2, d3, d4, d5, d6, d7, d8, d9⟩ := Box.cells (s := s) HE.out
    have hqr := blk_frozen HR.out
    obtain ⟨r0, r1, r2, r3, r4, r5, r6, r7, r8, r9⟩ := ten_cells HR.out
    go_wp2_with (fail)
    obtain ⟨y1, y2, y3⟩ := put_edV (w := w) (s := s) (rb := w.heap.size + 1) K1.out K2.out K3.out (fun k hk => by have := (HP1.out k hk).2; omega) HR.out HB1.out (by omega)
    refine bodyPost_ret (results_cell_row rfl _ _ (w.heap.size + 1) 27 _ (0, 0) _ rfl y1 hu27 rfl (by first | rfl | decide)) rfl ?_
    exact ⟨_, rfl, y2.mono (fun k hk => .inl (HP1.out k hk).1), y3⟩
end Go.Proofs.Ytlbbjdggebgabaa.P
end
