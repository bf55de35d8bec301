/- Texts of this claim, joined: R15, R16, G4, R17. -/
import Derived.Test.YtlbbjdggebgabaaRDM10
import Derived.Test.YtlbbjdggebgabaaRDM4
import Derived.StillTailTactics
import Derived.Deep.RegionHeld3
import Derived.Test.YtlbbjdggebgabaaRDM6
import Derived.Test.YtlbbjdggebgabaaRDM8
import Derived.Deep.DeepCutAuto
section
/- The reference's change, first half. -/
namespace Go.Proofs.Ytlbbjdggebgabaa.P
open Go.RowKit Go.Proofs.YtlbbjdggebgabaaW.PrintWords Go.Proofs.YtlbbjdggebgabaaW.PrintLast Go.Proofs.YtlbbjdggebgabaaW.PrintMore
set_option linter.unusedVariables false
set_option linter.unusedSimpArgs false

theorem cut_same (t : ByteArray) (i : Nat) (h : i ≤ t.size) : t.extract 0 i ++ t.extract i t.size = t := by
  apply ByteArray.ext
  apply Array.ext'
  have hz : t.data.toList.length = t.size := by simp
  have ht : t.data.toList.take t.size = t.data.toList := List.take_of_length_le (by omega)
  rw [ByteArray.data_append, Array.toList_append, ext_list, ext_list, List.drop_zero, ht, List.take_append_drop]
theorem cut_remove (s : St) (a i j : Int) (hi : 0 ≤ i) (hij : i ≤ j) (hj : j ≤ s.text.size) (hp : i = j → i = s.pos) (ht : s.text.size ≤ 4096) : (setS s a (s.text.extract 0 i.toNat ++ s.text.extract j.toNat s.text.size) i).1 = removeS s a i j := by
  unfold removeS
  by_cases h : i < j
  · rw [if_pos h]
  · obtain rfl : i = j := by omega
    rw [if_neg h, cut_same s.text i.toNat (by omega)]
    unfold setS
    rw [if_neg (by omega), if_pos rfl]
    have := hp rfl
    subst this
    rfl
theorem rremove_calls (w : World) (P : Nat → Prop) (s : St) (i j a : Int) (v : Value) (hv : EdV w P s v) (ok : OkS s) (hm : s.mark ≤ s.text.size) (ht : s.text.size ≤ 4096) (hi : 0 ≤ i) (hij : i ≤ j) (hj : j ≤ s.text.size) (hp : i = j → i = s.pos) :
    Calls Try.prog 46 #[v, .int .i64 i, .int .i64 j, .int .i64 a] w fun e w' => ∃ v', e = .returned v' ∧ EdV w' (fun k => P k ∨ w.heap.size ≤ k) (removeS s a i j) v' ∧ Below w.heap.size w w' := by
  rw [← cut_remove s a i j hi hij hj hp ht]
  exact rcut_calls w P s i j a v hv ok hm hi (by omega) (by omega) hj
theorem rkill_any (w : World) (P : Nat → Prop) (s : St) (a i j : Int) (v : Value) (hv : EdV w P s v) (ok : OkS s) (hm : s.mark ≤ s.text.size) (hk16 : s.kills.length ≤ 16) (hi0 : 0 ≤ i) (hij : i ≤ j) (hj : j ≤ s.text.size) :
    Calls Try.prog 47 #[v, .int .i64 i, .int .i64 j, .int .i64 a] w fun e w' => ∃ v', e = .returned v' ∧ EdV w' (fun k => P k ∨ w.heap.size ≤ k) (killS s a i j) v' ∧ Below w.heap.size w w' := by
  by_cases h : i < j
  · exact rkill_calls w P s a i j v hv ok hm hk16 hi0 h hj
  · obtain rfl : i = j := by omega
    exact rkill_none w P s a i v hv
/-- What the reference's actions ask of an editor. -/
structure RefOk (s : St) : Prop where
  ok : OkS s
  mark : s.mark ≤ s.text.size
  text : s.text.size ≤ 4096
  kills : s.kills.length ≤ 16
  saved : s.saved.size ≤ 4096

set_option maxHeartbeats 16000000 in
set_option maxRecDepth 100000 in
theorem rchange_1 (w : World) (P : Nat → Prop) (s : St) (x : ByteArray) (Al : Option Addr) (cl : Nat) (v : Value) (hv : EdV w P s v) (R : RefOk s) (hx : x.size ≤ 1000000) (hC : Kd.C Kd.string w Al s.lines.length s.lines) :
    Calls Try.prog 30 #[v, .int .i64 1, .string x, .slice Al s.lines.length cl] w fun e w' => ∃ v', e = .returned v' ∧ EdV w' (fun k => P k ∨ w.heap.size ≤ k) (insertS s 1 x) v' ∧ Below w.heap.size w w' := by
  have hvo := hv.old
  obtain ⟨P0, hP0⟩ : ∃ Q : Nat → Prop, Q = fun k => P k ∧ k < w.heap.size := ⟨_, rfl⟩
  rw [← hP0] at hvo
  have hp1 : ∀ k, P0 k → P k ∧ k < w.heap.size := by intro k hk; rw [hP0] at hk; exact hk
  clear hP0
  obtain ⟨Ak, Au, Ar, ck, cu, cr, rfl, v1, v2, v3⟩ := hvo
  have hu27 := Try.underlying27
  have hu23 := Try.underlying23
  obtain ⟨w1, hw1⟩ : ∃ z, z = (w.alloc (.cells #[.string s.text, .int .i64 s.pos, .int .i64 s.mark, .slice Ak s.kills.length ck, .slice Au s.undo.length cu, .slice Ar s.redo.length cr, .string s.keys, .int .i64 s.last, .int .i64 s.line, .string s.saved] 27)).alloc (.cells #[.string ⟨#[]⟩, .int .i64 0, .int .i64 0, .slice none 0 0, .slice none 0 0, .slice none 0 0, .string ⟨#[]⟩, .int .i64 0, .int .i64 0, .string ⟨#[]⟩] 27) := ⟨_, rfl⟩
  obtain ⟨b1, b2, b3, b4⟩ := box2 w #[.string s.text, .int .i64 s.pos, .int .i64 s.mark, .slice Ak s.kills.length ck, .slice Au s.undo.length cu, .slice Ar s.redo.length cr, .string s.keys, .int .i64 s.last, .int .i64 s.line, .string s.saved] #[.string ⟨#[]⟩, .int .i64 0, .int .i64 0, .slice none 0 0, .slice none 0 0, .slice none 0 0, .string ⟨#[]⟩, .int .i64 0, .int .i64 0, .string ⟨#[]⟩] 27 27
  rw [← hw1] at b1 b2 b3 b4
  have HE := Aside0.mk b1
  have HR := Aside0.mk b2
  have HB1 := Aside0.mk b3
  have HSZ := Aside0.mk b4
  have HP1 := Aside0.mk hp1
  have HW1 := Aside0.mk hw1
  have HV := Aside0.mk (show EdV w1 P0 s (edV s (.slice Ak s.kills.length ck) (.slice Au s.undo.length cu) (.slice Ar s.redo.length cr)) from ⟨Ak, Au, Ar, ck, cu, cr, rfl, Kd.V_below v1 b3, Kd.V_below v2 b3, Kd.V_below v3 b3⟩)
  have K1 := Aside0.mk (Kd.V_below v1 b3)
  have K2 := Aside0.mk (Kd.V_below v2 b3)
  have K3 := Aside0.mk (Kd.V_below v3 b3)
  unfold edV at HV hv ⊢
  obtain ⟨d0, d1, d2, d3, d4, d5, d6, d7, d8, d9⟩ := Box.cells (s := s) b1
  clear hv v1 v2 v3 hw1 b1 b2 b3 b4 hp1
  clear d0 d1 d2 d3 d4 d5 d6 d7 d8 d9
  have HOK := Aside0.mk R.ok
  have h0 := R.ok.low
  have h1 := R.ok.high
  have hts := R.text
  have hm := R.mark
  have HRK := Aside0.mk R
  have KC := Aside0.mk (Kd.C_below hC HB1.out)
  clear R hC
  obtain ⟨S, hS⟩ : ∃ z, z = insertS s 1 x := ⟨_, rfl⟩
  rw [← hS]
  have HS := Aside0.mk hS
  clear hS
  go_enter Try.func30, Try.ntmps30
  go_upto_region 1 with (fail)
  rw [← HW1.out]
  obtain ⟨d0, d1, d2, d3, d4, d5, d6, d7, d8, d9⟩ := Box.cells (s := s) HE.out
  go_region
  go_upto_region 4 with (fail)
  go_wp2_with (first | (go_at_call 45; refine (rput_calls (w1.drew) P0 s x 1 _ (HV.out.below (below_drew (Below.refl w1.heap.size w1))) HOK.out hm hx).mono ?_; rintro e w4 ⟨v4, rfl, hv4, hb⟩; have hbl := below_step (below_drew (Below.refl w1.heap.size w1)) hb; have hszr := (below_drew (Below.refl w1.heap.size w1)).size; have hv5 : EdV w4 (fun k => P0 k ∨ w1.heap.size ≤ k) S v4 := (by rw [HS.out]; exact hv4.mono (fun k hk => hk.elim .inl (fun h => .inr (Nat.le_trans hszr h)))); clear hszr; have HR4 := Aside0.mk (blk_below HR.out hbl); have HBL := Aside0.mk hbl; have hqr := blk_frozen HR4.out; obtain ⟨r0, r1, r2, r3, r4, r5, r6, r7, r8, r9⟩ := ten_cells HR4.out; obtain ⟨Ak4, Au4, Ar4, ck4, cu4, cr4, rfl, g1, g2, g3⟩ := hv5.opn; have G1 := Aside0.mk g1; have G2 := Aside0.mk g2; have G3 := Aside0.mk g3; clear hv4 hv5 hb hbl g1 g2 g3))
  obtain ⟨y1, y2, y3⟩ := put_edV (w := w) (s := S) (rb := w.heap.size + 1) G1.out G2.out G3.out (fun k hk => by have h1 := HP1.out k; have h2 := HSZ.out; rcases hk with hk | hk; exact (by have := (h1 hk).2; omega); exact (by have h3 : w1.heap.size ≤ k := hk; omega)) HR4.out (below_step HB1.out HBL.out) (by omega)
  refine bodyPost_ret (results_cell_row rfl _ _ (w.heap.size + 1) 27 _ (0, 0) _ rfl y1 hu27 rfl (by first | rfl | decide)) rfl ?_
  exact ⟨_, rfl, y2.mono (fun k hk => by have h1 := HP1.out k; have h2 := HSZ.out; rcases hk with hk | hk; exact .inl (h1 hk).1; exact .inr (by have h3 : w1.heap.size ≤ k := hk; omega)), y3⟩
set_option maxHeartbeats 16000000 in
set_option maxRecDepth 100000 in
theorem rchange_9 (w : World) (P : Nat → Prop) (s : St) (x : ByteArray) (Al : Option Addr) (cl : Nat) (v : Value) (hv : EdV w P s v) (R : RefOk s) (hx : x.size ≤ 1000000) (hC : Kd.C Kd.string w Al s.lines.length s.lines) :
    Calls Try.prog 30 #[v, .int .i64 9, .string x, .slice Al s.lines.length cl] w fun e w' => ∃ v', e = .returned v' ∧ EdV w' (fun k => P k ∨ w.heap.size ≤ k) (removeS s 9 (if 0 < s.pos - 1 then s.pos - 1 else 0) s.pos) v' ∧ Below w.heap.size w w' := by
  have hvo := hv.old
  obtain ⟨P0, hP0⟩ : ∃ Q : Nat → Prop, Q = fun k => P k ∧ k < w.heap.size := ⟨_, rfl⟩
  rw [← hP0] at hvo
  have hp1 : ∀ k, P0 k → P k ∧ k < w.heap.size := by intro k hk; rw [hP0] at hk; exact hk
  clear hP0
  obtain ⟨Ak, Au, Ar, ck, cu, cr, rfl, v1, v2, v3⟩ := hvo
  have hu27 := Try.underlying27
  have hu23 := Try.underlying23
  obtain ⟨w1, hw1⟩ : ∃ z, z = (w.alloc (.cells #[.string s.text, .int .i64 s.pos, .int .i64 s.mark, .slice Ak s.kills.length ck, .slice Au s.undo.length cu, .slice Ar s.redo.length cr, .string s.keys, .int .i64 s.last, .int .i64 s.line, .string s.saved] 27)).alloc (.cells #[.string ⟨#[]⟩, .int .i64 0, .int .i64 0, .slice none 0 0, .slice none 0 0, .slice none 0 0, .string ⟨#[]⟩, .int .i64 0, .int .i64 0, .string ⟨#[]⟩] 27) := ⟨_, rfl⟩
  obtain ⟨b1, b2, b3, b4⟩ := box2 w #[.string s.text, .int .i64 s.pos, .int .i64 s.mark, .slice Ak s.kills.length ck, .slice Au s.undo.length cu, .slice Ar s.redo.length cr, .string s.keys, .int .i64 s.last, .int .i64 s.line, .string s.saved] #[.string ⟨#[]⟩, .int .i64 0, .int .i64 0, .slice none 0 0, .slice none 0 0, .slice none 0 0, .string ⟨#[]⟩, .int .i64 0, .int .i64 0, .string ⟨#[]⟩] 27 27
  rw [← hw1] at b1 b2 b3 b4
  have HE := Aside0.mk b1
  have HR := Aside0.mk b2
  have HB1 := Aside0.mk b3
  have HSZ := Aside0.mk b4
  have HP1 := Aside0.mk hp1
  have HW1 := Aside0.mk hw1
  have HV := Aside0.mk (show EdV w1 P0 s (edV s (.slice Ak s.kills.length ck) (.slice Au s.undo.length cu) (.slice Ar s.redo.length cr)) from ⟨Ak, Au, Ar, ck, cu, cr, rfl, Kd.V_below v1 b3, Kd.V_below v2 b3, Kd.V_below v3 b3⟩)
  have K1 := Aside0.mk (Kd.V_below v1 b3)
  have K2 := Aside0.mk (Kd.V_below v2 b3)
  have K3 := Aside0.mk (Kd.V_below v3 b3)
  unfold edV at HV hv ⊢
  obtain ⟨d0, d1, d2, d3, d4, d5, d6, d7, d8, d9⟩ := Box.cells (s := s) b1
  clear hv v1 v2 v3 hw1 b1 b2 b3 b4 hp1
  clear d0 d1 d2 d3 d4 d5 d6 d7 d8 d9
  have HOK := Aside0.mk R.ok
  have h0 := R.ok.low
  have h1 := R.ok.high
  have hts := R.text
  have hm := R.mark
  have HRK := Aside0.mk R
  have KC := Aside0.mk (Kd.C_below hC HB1.out)
  clear R hC
  by_cases c : 0 < s.pos - 1
  · rw [if_pos c]
    have c2 : decide (0 < s.pos - 1) = true := decide_eq_true c
    have c3 : decide (1 < s.pos) = true := decide_eq_true (by omega)
    have HPQ := Aside0.mk (show (s.pos - 1) = s.pos → (s.pos - 1) = s.pos from fun h => h)
    have i0 : 0 ≤ (s.pos - 1) := by omega
    have i1 : (s.pos - 1) ≤ s.pos := by omega
    obtain ⟨S, hS⟩ : ∃ z, z = removeS s 9 (s.pos - 1) s.pos := ⟨_, rfl⟩
    rw [← hS]
    have HS := Aside0.mk hS
    clear hS
    go_enter Try.func30, Try.ntmps30
    go_upto_region 1 with (fail)
    rw [← HW1.out]
    obtain ⟨d0, d1, d2, d3, d4, d5, d6, d7, d8, d9⟩ := Box.cells (s := s) HE.out
    go_region
    go_upto_region 6 with (fail)
    go_wp2_with (first | (go_at_call 46; refine (rremove_calls (w1.drew) P0 s (s.pos - 1) s.pos 9 _ (HV.out.below (below_drew (Below.refl w1.heap.size w1))) HOK.out hm hts i0 i1 h1 HPQ.out).mono ?_; rintro e w4 ⟨v4, rfl, hv4, hb⟩; have hbl := below_step (below_drew (Below.refl w1.heap.size w1)) hb; have hszr := (below_drew (Below.refl w1.heap.size w1)).size; have hv5 : EdV w4 (fun k => P0 k ∨ w1.heap.size ≤ k) S v4 := (by rw [HS.out]; exact hv4.mono (fun k hk => hk.elim .inl (fun h => .inr (Nat.le_trans hszr h)))); clear hszr; have HR4 := Aside0.mk (blk_below HR.out hbl); have HBL := Aside0.mk hbl; have hqr := blk_frozen HR4.out; obtain ⟨r0, r1, r2, r3, r4, r5, r6, r7, r8, r9⟩ := ten_cells HR4.out; obtain ⟨Ak4, Au4, Ar4, ck4, cu4, cr4, rfl, g1, g2, g3⟩ := hv5.opn; have G1 := Aside0.mk g1; have G2 := Aside0.mk g2; have G3 := Aside0.mk g3; clear hv4 hv5 hb hbl g1 g2 g3))
    obtain ⟨y1, y2, y3⟩ := put_edV (w := w) (s := S) (rb := w.heap.size + 1) G1.out G2.out G3.out (fun k hk => by have h1 := HP1.out k; have h2 := HSZ.out; rcases hk with hk | hk; exact (by have := (h1 hk).2; omega); exact (by have h3 : w1.heap.size ≤ k := hk; omega)) HR4.out (below_step HB1.out HBL.out) (by omega)
    refine bodyPost_ret (results_cell_row rfl _ _ (w.heap.size + 1) 27 _ (0, 0) _ rfl y1 hu27 rfl (by first | rfl | decide)) rfl ?_
    exact ⟨_, rfl, y2.mono (fun k hk => by have h1 := HP1.out k; have h2 := HSZ.out; rcases hk with hk | hk; exact .inl (h1 hk).1; exact .inr (by have h3 : w1.heap.size ≤ k := hk; omega)), y3⟩
  · rw [if_neg c]
    have c2 : decide (0 < s.pos - 1) = false := decide_eq_false c
    have c3 : decide (1 < s.pos) = false := decide_eq_false (by omega)
    have HPQ := Aside0.mk (show (0 : Int) = s.pos → (0 : Int) = s.pos from fun h => h)
    have i0 : 0 ≤ (0 : Int) := by omega
    have i1 : (0 : Int) ≤ s.pos := by omega
    obtain ⟨S, hS⟩ : ∃ z, z = removeS s 9 (0 : Int) s.pos := ⟨_, rfl⟩
    rw [← hS]
    have HS := Aside0.mk hS
    clear hS
    go_enter Try.func30, Try.ntmps30
    go_upto_region 1 with (fail)
    rw [← HW1.out]
    obtain ⟨d0, d1, d2, d3, d4, d5, d6, d7, d8, d9⟩ := Box.cells (s := s) HE.out
    go_region
    go_upto_region 6 with (fail)
    go_wp2_with (first | (go_at_call 46; refine (rremove_calls (w1.drew) P0 s (0 : Int) s.pos 9 _ (HV.out.below (below_drew (Below.refl w1.heap.size w1))) HOK.out hm hts i0 i1 h1 HPQ.out).mono ?_; rintro e w4 ⟨v4, rfl, hv4, hb⟩; have hbl := below_step (below_drew (Below.refl w1.heap.size w1)) hb; have hszr := (below_drew (Below.refl w1.heap.size w1)).size; have hv5 : EdV w4 (fun k => P0 k ∨ w1.heap.size ≤ k) S v4 := (by rw [HS.out]; exact hv4.mono (fun k hk => hk.elim .inl (fun h => .inr (Nat.le_trans hszr h)))); clear hszr; have HR4 := Aside0.mk (blk_below HR.out hbl); have HBL := Aside0.mk hbl; have hqr := blk_frozen HR4.out; obtain ⟨r0, r1, r2, r3, r4, r5, r6, r7, r8, r9⟩ := ten_cells HR4.out; obtain ⟨Ak4, Au4, Ar4, ck4, cu4, cr4, rfl, g1, g2, g3⟩ := hv5.opn; have G1 := Aside0.mk g1; have G2 := Aside0.mk g2; have G3 := Aside0.mk g3; clear hv4 hv5 hb hbl g1 g2 g3))
    obtain ⟨y1, y2, y3⟩ := put_edV (w := w) (s := S) (rb := w.heap.size + 1) G1.out G2.out G3.out (fun k hk => by have h1 := HP1.out k; have h2 := HSZ.out; rcases hk with hk | hk; exact (by have := (h1 hk).2; omega); exact (by have h3 : w1.heap.size ≤ k := hk; omega)) HR4.out (below_step HB1.out HBL.out) (by omega)
    refine bodyPost_ret (results_cell_row rfl _ _ (w.heap.size + 1) 27 _ (0, 0) _ rfl y1 hu27 rfl (by first | rfl | decide)) rfl ?_
    exact ⟨_, rfl, y2.mono (fun k hk => by have h1 := HP1.out k; have h2 := HSZ.out; rcases hk with hk | hk; exact .inl (h1 hk).1; exact .inr (by have h3 : w1.heap.size ≤ k := hk; omega)), y3⟩
set_option maxHeartbeats 16000000 in
set_option maxRecDepth 100000 in
theorem rchange_10 (w : World) (P : Nat → Prop) (s : St) (x : ByteArray) (Al : Option Addr) (cl : Nat) (v : Value) (hv : EdV w P s v) (R : RefOk s) (hx : x.size ≤ 1000000) (hC : Kd.C Kd.string w Al s.lines.length s.lines) :
    Calls Try.prog 30 #[v, .int .i64 10, .string x, .slice Al s.lines.length cl] w fun e w' => ∃ v', e = .returned v' ∧ EdV w' (fun k => P k ∨ w.heap.size ≤ k) (removeS s 10 s.pos (if s.pos + 1 < (s.text.size : Int) then s.pos + 1 else (s.text.size : Int))) v' ∧ Below w.heap.size w w' := by
  have hvo := hv.old
  obtain ⟨P0, hP0⟩ : ∃ Q : Nat → Prop, Q = fun k => P k ∧ k < w.heap.size := ⟨_, rfl⟩
  rw [← hP0] at hvo
  have hp1 : ∀ k, P0 k → P k ∧ k < w.heap.size := by intro k hk; rw [hP0] at hk; exact hk
  clear hP0
  obtain ⟨Ak, Au, Ar, ck, cu, cr, rfl, v1, v2, v3⟩ := hvo
  have hu27 := Try.underlying27
  have hu23 := Try.underlying23
  obtain ⟨w1, hw1⟩ : ∃ z, z = (w.alloc (.cells #[.string s.text, .int .i64 s.pos, .int .i64 s.mark, .slice Ak s.kills.length ck, .slice Au s.undo.length cu, .slice Ar s.redo.length cr, .string s.keys, .int .i64 s.last, .int .i64 s.line, .string s.saved] 27)).alloc (.cells #[.string ⟨#[]⟩, .int .i64 0, .int .i64 0, .slice none 0 0, .slice none 0 0, .slice none 0 0, .string ⟨#[]⟩, .int .i64 0, .int .i64 0, .string ⟨#[]⟩] 27) := ⟨_, rfl⟩
  obtain ⟨b1, b2, b3, b4⟩ := box2 w #[.string s.text, .int .i64 s.pos, .int .i64 s.mark, .slice Ak s.kills.length ck, .slice Au s.undo.length cu, .slice Ar s.redo.length cr, .string s.keys, .int .i64 s.last, .int .i64 s.line, .string s.saved] #[.string ⟨#[]⟩, .int .i64 0, .int .i64 0, .slice none 0 0, .slice none 0 0, .slice none 0 0, .string ⟨#[]⟩, .int .i64 0, .int .i64 0, .string ⟨#[]⟩] 27 27
  rw [← hw1] at b1 b2 b3 b4
  have HE := Aside0.mk b1
  have HR := Aside0.mk b2
  have HB1 := Aside0.mk b3
  have HSZ := Aside0.mk b4
  have HP1 := Aside0.mk hp1
  have HW1 := Aside0.mk hw1
  have HV := Aside0.mk (show EdV w1 P0 s (edV s (.slice Ak s.kills.length ck) (.slice Au s.undo.length cu) (.slice Ar s.redo.length cr)) from ⟨Ak, Au, Ar, ck, cu, cr, rfl, Kd.V_below v1 b3, Kd.V_below v2 b3, Kd.V_below v3 b3⟩)
  have K1 := Aside0.mk (Kd.V_below v1 b3)
  have K2 := Aside0.mk (Kd.V_below v2 b3)
  have K3 := Aside0.mk (Kd.V_below v3 b3)
  unfold edV at HV hv ⊢
  obtain ⟨d0, d1, d2, d3, d4, d5, d6, d7, d8, d9⟩ := Box.cells (s := s) b1
  clear hv v1 v2 v3 hw1 b1 b2 b3 b4 hp1
  clear d0 d1 d2 d3 d4 d5 d6 d7 d8 d9
  have HOK := Aside0.mk R.ok
  have h0 := R.ok.low
  have h1 := R.ok.high
  have hts := R.text
  have hm := R.mark
  have HRK := Aside0.mk R
  have KC := Aside0.mk (Kd.C_below hC HB1.out)
  clear R hC
  by_cases c : s.pos + 1 < (s.text.size : Int)
  · rw [if_pos c]
    have c2 : decide (s.pos + 1 < (s.text.size : Int)) = true := decide_eq_true c
    have c3 : decide ((s.text.size : Int) < s.pos + 1) = false := decide_eq_false (by omega)
    have j0 : s.pos ≤ (s.pos + 1) := by omega
    have j1 : (s.pos + 1) ≤ (s.text.size : Int) := by omega
    obtain ⟨S, hS⟩ : ∃ z, z = removeS s 10 s.pos (s.pos + 1) := ⟨_, rfl⟩
    rw [← hS]
    have HS := Aside0.mk hS
    clear hS
    go_enter Try.func30, Try.ntmps30
    go_upto_region 1 with (fail)
    rw [← HW1.out]
    obtain ⟨d0, d1, d2, d3, d4, d5, d6, d7, d8, d9⟩ := Box.cells (s := s) HE.out
    go_region
    go_upto_region 9 with (fail)
    go_wp2_with (first | (go_at_call 46; refine (rremove_calls (w1.drew) P0 s s.pos (s.pos + 1) 10 _ (HV.out.below (below_drew (Below.refl w1.heap.size w1))) HOK.out hm hts h0 j0 j1 (fun _ => rfl)).mono ?_; rintro e w4 ⟨v4, rfl, hv4, hb⟩; have hbl := below_step (below_drew (Below.refl w1.heap.size w1)) hb; have hszr := (below_drew (Below.refl w1.heap.size w1)).size; have hv5 : EdV w4 (fun k => P0 k ∨ w1.heap.size ≤ k) S v4 := (by rw [HS.out]; exact hv4.mono (fun k hk => hk.elim .inl (fun h => .inr (Nat.le_trans hszr h)))); clear hszr; have HR4 := Aside0.mk (blk_below HR.out hbl); have HBL := Aside0.mk hbl; have hqr := blk_frozen HR4.out; obtain ⟨r0, r1, r2, r3, r4, r5, r6, r7, r8, r9⟩ := ten_cells HR4.out; obtain ⟨Ak4, Au4, Ar4, ck4, cu4, cr4, rfl, g1, g2, g3⟩ := hv5.opn; have G1 := Aside0.mk g1; have G2 := Aside0.mk g2; have G3 := Aside0.mk g3; clear hv4 hv5 hb hbl g1 g2 g3))
    obtain ⟨y1, y2, y3⟩ := put_edV (w := w) (s := S) (rb := w.heap.size + 1) G1.out G2.out G3.out (fun k hk => by have h1 := HP1.out k; have h2 := HSZ.out; rcases hk with hk | hk; exact (by have := (h1 hk).2; omega); exact (by have h3 : w1.heap.size ≤ k := hk; omega)) HR4.out (below_step HB1.out HBL.out) (by omega)
    refine bodyPost_ret (results_cell_row rfl _ _ (w.heap.size + 1) 27 _ (0, 0) _ rfl y1 hu27 rfl (by first | rfl | decide)) rfl ?_
    exact ⟨_, rfl, y2.mono (fun k hk => by have h1 := HP1.out k; have h2 := HSZ.out; rcases hk with hk | hk; exact .inl (h1 hk).1; exact .inr (by have h3 : w1.heap.size ≤ k := hk; omega)), y3⟩
  · rw [if_neg c]
    have c2 : decide (s.pos + 1 < (s.text.size : Int)) = false := decide_eq_false c
    have j0 : s.pos ≤ (s.text.size : Int) := by omega
    have j1 : (s.text.size : Int) ≤ (s.text.size : Int) := by omega
    obtain ⟨S, hS⟩ : ∃ z, z = removeS s 10 s.pos (s.text.size : Int) := ⟨_, rfl⟩
    rw [← hS]
    have HS := Aside0.mk hS
    clear hS
    go_enter Try.func30, Try.ntmps30
    go_upto_region 1 with (fail)
    rw [← HW1.out]
    obtain ⟨d0, d1, d2, d3, d4, d5, d6, d7, d8, d9⟩ := Box.cells (s := s) HE.out
    go_region
    go_upto_region 9 with (fail)
    go_wp2_with (first | (go_at_call 46; refine (rremove_calls (w1.drew) P0 s s.pos (s.text.size : Int) 10 _ (HV.out.below (below_drew (Below.refl w1.heap.size w1))) HOK.out hm hts h0 j0 j1 (fun _ => rfl)).mono ?_; rintro e w4 ⟨v4, rfl, hv4, hb⟩; have hbl := below_step (below_drew (Below.refl w1.heap.size w1)) hb; have hszr := (below_drew (Below.refl w1.heap.size w1)).size; have hv5 : EdV w4 (fun k => P0 k ∨ w1.heap.size ≤ k) S v4 := (by rw [HS.out]; exact hv4.mono (fun k hk => hk.elim .inl (fun h => .inr (Nat.le_trans hszr h)))); clear hszr; have HR4 := Aside0.mk (blk_below HR.out hbl); have HBL := Aside0.mk hbl; have hqr := blk_frozen HR4.out; obtain ⟨r0, r1, r2, r3, r4, r5, r6, r7, r8, r9⟩ := ten_cells HR4.out; obtain ⟨Ak4, Au4, Ar4, ck4, cu4, cr4, rfl, g1, g2, g3⟩ := hv5.opn; have G1 := Aside0.mk g1; have G2 := Aside0.mk g2; have G3 := Aside0.mk g3; clear hv4 hv5 hb hbl g1 g2 g3))
    obtain ⟨y1, y2, y3⟩ := put_edV (w := w) (s := S) (rb := w.heap.size + 1) G1.out G2.out G3.out (fun k hk => by have h1 := HP1.out k; have h2 := HSZ.out; rcases hk with hk | hk; exact (by have := (h1 hk).2; omega); exact (by have h3 : w1.heap.size ≤ k := hk; omega)) HR4.out (below_step HB1.out HBL.out) (by omega)
    refine bodyPost_ret (results_cell_row rfl _ _ (w.heap.size + 1) 27 _ (0, 0) _ rfl y1 hu27 rfl (by first | rfl | decide)) rfl ?_
    exact ⟨_, rfl, y2.mono (fun k hk => by have h1 := HP1.out k; have h2 := HSZ.out; rcases hk with hk | hk; exact .inl (h1 hk).1; exact .inr (by have h3 : w1.heap.size ≤ k := hk; omega)), y3⟩
set_option maxHeartbeats 16000000 in
set_option maxRecDepth 100000 in
theorem rchange_23 (w : World) (P : Nat → Prop) (s : St) (x : ByteArray) (Al : Option Addr) (cl : Nat) (v : Value) (hv : EdV w P s v) (R : RefOk s) (hx : x.size ≤ 1000000) (hC : Kd.C Kd.string w Al s.lines.length s.lines) :
    Calls Try.prog 30 #[v, .int .i64 23, .string x, .slice Al s.lines.length cl] w fun e w' => ∃ v', e = .returned v' ∧ EdV w' (fun k => P k ∨ w.heap.size ≤ k) (removeS s 23 s.pos (if s.pos + 1 < (s.text.size : Int) then s.pos + 1 else (s.text.size : Int))) v' ∧ Below w.heap.size w w' := by
  have hvo := hv.old
  obtain ⟨P0, hP0⟩ : ∃ Q : Nat → Prop, Q = fun k => P k ∧ k < w.heap.size := ⟨_, rfl⟩
  rw [← hP0] at hvo
  have hp1 : ∀ k, P0 k → P k ∧ k < w.heap.size := by intro k hk; rw [hP0] at hk; exact hk
  clear hP0
  obtain ⟨Ak, Au, Ar, ck, cu, cr, rfl, v1, v2, v3⟩ := hvo
  have hu27 := Try.underlying27
  have hu23 := Try.underlying23
  obtain ⟨w1, hw1⟩ : ∃ z, z = (w.alloc (.cells #[.string s.text, .int .i64 s.pos, .int .i64 s.mark, .slice Ak s.kills.length ck, .slice Au s.undo.length cu, .slice Ar s.redo.length cr, .string s.keys, .int .i64 s.last, .int .i64 s.line, .string s.saved] 27)).alloc (.cells #[.string ⟨#[]⟩, .int .i64 0, .int .i64 0, .slice none 0 0, .slice none 0 0, .slice none 0 0, .string ⟨#[]⟩, .int .i64 0, .int .i64 0, .string ⟨#[]⟩] 27) := ⟨_, rfl⟩
  obtain ⟨b1, b2, b3, b4⟩ := box2 w #[.string s.text, .int .i64 s.pos, .int .i64 s.mark, .slice Ak s.kills.length ck, .slice Au s.undo.length cu, .slice Ar s.redo.length cr, .string s.keys, .int .i64 s.last, .int .i64 s.line, .string s.saved] #[.string ⟨#[]⟩, .int .i64 0, .int .i64 0, .slice none 0 0, .slice none 0 0, .slice none 0 0, .string ⟨#[]⟩, .int .i64 0, .int .i64 0, .string ⟨#[]⟩] 27 27
  rw [← hw1] at b1 b2 b3 b4
  have HE := Aside0.mk b1
  have HR := Aside0.mk b2
  have HB1 := Aside0.mk b3
  have HSZ := Aside0.mk b4
  have HP1 := Aside0.mk hp1
  have HW1 := Aside0.mk hw1
  have HV := Aside0.mk (show EdV w1 P0 s (edV s (.slice Ak s.kills.length ck) (.slice Au s.undo.length cu) (.slice Ar s.redo.length cr)) from ⟨Ak, Au, Ar, ck, cu, cr, rfl, Kd.V_below v1 b3, Kd.V_below v2 b3, Kd.V_below v3 b3⟩)
  have K1 := Aside0.mk (Kd.V_below v1 b3)
  have K2 := Aside0.mk (Kd.V_below v2 b3)
  have K3 := Aside0.mk (Kd.V_below v3 b3)
  unfold edV at HV hv ⊢
  obtain ⟨d0, d1, d2, d3, d4, d5, d6, d7, d8, d9⟩ := Box.cells (s := s) b1
  clear hv v1 v2 v3 hw1 b1 b2 b3 b4 hp1
  clear d0 d1 d2 d3 d4 d5 d6 d7 d8 d9
  have HOK := Aside0.mk R.ok
  have h0 := R.ok.low
  have h1 := R.ok.high
  have hts := R.text
  have hm := R.mark
  have HRK := Aside0.mk R
  have KC := Aside0.mk (Kd.C_below hC HB1.out)
  clear R hC
  by_cases c : s.pos + 1 < (s.text.size : Int)
  · rw [if_pos c]
    have c2 : decide (s.pos + 1 < (s.text.size : Int)) = true := decide_eq_true c
    have c3 : decide ((s.text.size : Int) < s.pos + 1) = false := decide_eq_false (by omega)
    have j0 : s.pos ≤ (s.pos + 1) := by omega
    have j1 : (s.pos + 1) ≤ (s.text.size : Int) := by omega
    obtain ⟨S, hS⟩ : ∃ z, z = removeS s 23 s.pos (s.pos + 1) := ⟨_, rfl⟩
    rw [← hS]
    have HS := Aside0.mk hS
    clear hS
    go_enter Try.func30, Try.ntmps30
    go_upto_region 1 with (fail)
    rw [← HW1.out]
    obtain ⟨d0, d1, d2, d3, d4, d5, d6, d7, d8, d9⟩ := Box.cells (s := s) HE.out
    go_region
    go_upto_region 9 with (fail)
    go_wp2_with (first | (go_at_call 46; refine (rremove_calls (w1.drew) P0 s s.pos (s.pos + 1) 23 _ (HV.out.below (below_drew (Below.refl w1.heap.size w1))) HOK.out hm hts h0 j0 j1 (fun _ => rfl)).mono ?_; rintro e w4 ⟨v4, rfl, hv4, hb⟩; have hbl := below_step (below_drew (Below.refl w1.heap.size w1)) hb; have hszr := (below_drew (Below.refl w1.heap.size w1)).size; have hv5 : EdV w4 (fun k => P0 k ∨ w1.heap.size ≤ k) S v4 := (by rw [HS.out]; exact hv4.mono (fun k hk => hk.elim .inl (fun h => .inr (Nat.le_trans hszr h)))); clear hszr; have HR4 := Aside0.mk (blk_below HR.out hbl); have HBL := Aside0.mk hbl; have hqr := blk_frozen HR4.out; obtain ⟨r0, r1, r2, r3, r4, r5, r6, r7, r8, r9⟩ := ten_cells HR4.out; obtain ⟨Ak4, Au4, Ar4, ck4, cu4, cr4, rfl, g1, g2, g3⟩ := hv5.opn; have G1 := Aside0.mk g1; have G2 := Aside0.mk g2; have G3 := Aside0.mk g3; clear hv4 hv5 hb hbl g1 g2 g3))
    obtain ⟨y1, y2, y3⟩ := put_edV (w := w) (s := S) (rb := w.heap.size + 1) G1.out G2.out G3.out (fun k hk => by have h1 := HP1.out k; have h2 := HSZ.out; rcases hk with hk | hk; exact (by have := (h1 hk).2; omega); exact (by have h3 : w1.heap.size ≤ k := hk; omega)) HR4.out (below_step HB1.out HBL.out) (by omega)
    refine bodyPost_ret (results_cell_row rfl _ _ (w.heap.size + 1) 27 _ (0, 0) _ rfl y1 hu27 rfl (by first | rfl | decide)) rfl ?_
    exact ⟨_, rfl, y2.mono (fun k hk => by have h1 := HP1.out k; have h2 := HSZ.out; rcases hk with hk | hk; exact .inl (h1 hk).1; exact .inr (by have h3 : w1.heap.size ≤ k := hk; omega)), y3⟩
  · rw [if_neg c]
    have c2 : decide (s.pos + 1 < (s.text.size : Int)) = false := decide_eq_false c
    have j0 : s.pos ≤ (s.text.size : Int) := by omega
    have j1 : (s.text.size : Int) ≤ (s.text.size : Int) := by omega
    obtain ⟨S, hS⟩ : ∃ z, z = removeS s 23 s.pos (s.text.size : Int) := ⟨_, rfl⟩
    rw [← hS]
    have HS := Aside0.mk hS
    clear hS
    go_enter Try.func30, Try.ntmps30
    go_upto_region 1 with (fail)
    rw [← HW1.out]
    obtain ⟨d0, d1, d2, d3, d4, d5, d6, d7, d8, d9⟩ := Box.cells (s := s) HE.out
    go_region
    go_upto_region 9 with (fail)
    go_wp2_with (first | (go_at_call 46; refine (rremove_calls (w1.drew) P0 s s.pos (s.text.size : Int) 23 _ (HV.out.below (below_drew (Below.refl w1.heap.size w1))) HOK.out hm hts h0 j0 j1 (fun _ => rfl)).mono ?_; rintro e w4 ⟨v4, rfl, hv4, hb⟩; have hbl := below_step (below_drew (Below.refl w1.heap.size w1)) hb; have hszr := (below_drew (Below.refl w1.heap.size w1)).size; have hv5 : EdV w4 (fun k => P0 k ∨ w1.heap.size ≤ k) S v4 := (by rw [HS.out]; exact hv4.mono (fun k hk => hk.elim .inl (fun h => .inr (Nat.le_trans hszr h)))); clear hszr; have HR4 := Aside0.mk (blk_below HR.out hbl); have HBL := Aside0.mk hbl; have hqr := blk_frozen HR4.out; obtain ⟨r0, r1, r2, r3, r4, r5, r6, r7, r8, r9⟩ := ten_cells HR4.out; obtain ⟨Ak4, Au4, Ar4, ck4, cu4, cr4, rfl, g1, g2, g3⟩ := hv5.opn; have G1 := Aside0.mk g1; have G2 := Aside0.mk g2; have G3 := Aside0.mk g3; clear hv4 hv5 hb hbl g1 g2 g3))
    obtain ⟨y1, y2, y3⟩ := put_edV (w := w) (s := S) (rb := w.heap.size + 1) G1.out G2.out G3.out (fun k hk => by have h1 := HP1.out k; have h2 := HSZ.out; rcases hk with hk | hk; exact (by have := (h1 hk).2; omega); exact (by have h3 : w1.heap.size ≤ k := hk; omega)) HR4.out (below_step HB1.out HBL.out) (by omega)
    refine bodyPost_ret (results_cell_row rfl _ _ (w.heap.size + 1) 27 _ (0, 0) _ rfl y1 hu27 rfl (by first | rfl | decide)) rfl ?_
    exact ⟨_, rfl, y2.mono (fun k hk => by have h1 := HP1.out k; have h2 := HSZ.out; rcases hk with hk | hk; exact .inl (h1 hk).1; exact .inr (by have h3 : w1.heap.size ≤ k := hk; omega)), y3⟩
set_option maxHeartbeats 16000000 in
set_option maxRecDepth 100000 in
theorem rchange_11 (w : World) (P : Nat → Prop) (s : St) (x : ByteArray) (Al : Option Addr) (cl : Nat) (v : Value) (hv : EdV w P s v) (R : RefOk s) (hx : x.size ≤ 1000000) (hC : Kd.C Kd.string w Al s.lines.length s.lines) :
    Calls Try.prog 30 #[v, .int .i64 11, .string x, .slice Al s.lines.length cl] w fun e w' => ∃ v', e = .returned v' ∧ EdV w' (fun k => P k ∨ w.heap.size ≤ k) (killS s 11 s.pos (s.text.size : Int)) v' ∧ Below w.heap.size w w' := by
  have hvo := hv.old
  obtain ⟨P0, hP0⟩ : ∃ Q : Nat → Prop, Q = fun k => P k ∧ k < w.heap.size := ⟨_, rfl⟩
  rw [← hP0] at hvo
  have hp1 : ∀ k, P0 k → P k ∧ k < w.heap.size := by intro k hk; rw [hP0] at hk; exact hk
  clear hP0
  obtain ⟨Ak, Au, Ar, ck, cu, cr, rfl, v1, v2, v3⟩ := hvo
  have hu27 := Try.underlying27
  have hu23 := Try.underlying23
  obtain ⟨w1, hw1⟩ : ∃ z, z = (w.alloc (.cells #[.string s.text, .int .i64 s.pos, .int .i64 s.mark, .slice Ak s.kills.length ck, .slice Au s.undo.length cu, .slice Ar s.redo.length cr, .string s.keys, .int .i64 s.last, .int .i64 s.line, .string s.saved] 27)).alloc (.cells #[.string ⟨#[]⟩, .int .i64 0, .int .i64 0, .slice none 0 0, .slice none 0 0, .slice none 0 0, .string ⟨#[]⟩, .int .i64 0, .int .i64 0, .string ⟨#[]⟩] 27) := ⟨_, rfl⟩
  obtain ⟨b1, b2, b3, b4⟩ := box2 w #[.string s.text, .int .i64 s.pos, .int .i64 s.mark, .slice Ak s.kills.length ck, .slice Au s.undo.length cu, .slice Ar s.redo.length cr, .string s.keys, .int .i64 s.last, .int .i64 s.line, .string s.saved] #[.string ⟨#[]⟩, .int .i64 0, .int .i64 0, .slice none 0 0, .slice none 0 0, .slice none 0 0, .string ⟨#[]⟩, .int .i64 0, .int .i64 0, .string ⟨#[]⟩] 27 27
  rw [← hw1] at b1 b2 b3 b4
  have HE := Aside0.mk b1
  have HR := Aside0.mk b2
  have HB1 := Aside0.mk b3
  have HSZ := Aside0.mk b4
  have HP1 := Aside0.mk hp1
  have HW1 := Aside0.mk hw1
  have HV := Aside0.mk (show EdV w1 P0 s (edV s (.slice Ak s.kills.length ck) (.slice Au s.undo.length cu) (.slice Ar s.redo.length cr)) from ⟨Ak, Au, Ar, ck, cu, cr, rfl, Kd.V_below v1 b3, Kd.V_below v2 b3, Kd.V_below v3 b3⟩)
  have K1 := Aside0.mk (Kd.V_below v1 b3)
  have K2 := Aside0.mk (Kd.V_below v2 b3)
  have K3 := Aside0.mk (Kd.V_below v3 b3)
  unfold edV at HV hv ⊢
  obtain ⟨d0, d1, d2, d3, d4, d5, d6, d7, d8, d9⟩ := Box.cells (s := s) b1
  clear hv v1 v2 v3 hw1 b1 b2 b3 b4 hp1
  clear d0 d1 d2 d3 d4 d5 d6 d7 d8 d9
  have HOK := Aside0.mk R.ok
  have h0 := R.ok.low
  have h1 := R.ok.high
  have hts := R.text
  have hm := R.mark
  have HRK := Aside0.mk R
  have KC := Aside0.mk (Kd.C_below hC HB1.out)
  clear R hC
  obtain ⟨S, hS⟩ : ∃ z, z = killS s 11 s.pos (s.text.size : Int) := ⟨_, rfl⟩
  rw [← hS]
  have HS := Aside0.mk hS
  clear hS
  go_enter Try.func30, Try.ntmps30
  go_upto_region 1 with (fail)
  rw [← HW1.out]
  obtain ⟨d0, d1, d2, d3, d4, d5, d6, d7, d8, d9⟩ := Box.cells (s := s) HE.out
  go_region
  go_upto_region 11 with (fail)
  go_wp2_with (first | (go_at_call 47; refine (rkill_any (w1.drew) P0 s 11 s.pos (s.text.size : Int) _ (HV.out.below (below_drew (Below.refl w1.heap.size w1))) HOK.out hm HRK.out.kills h0 h1 (Int.le_refl _)).mono ?_; rintro e w4 ⟨v4, rfl, hv4, hb⟩; have hbl := below_step (below_drew (Below.refl w1.heap.size w1)) hb; have hszr := (below_drew (Below.refl w1.heap.size w1)).size; have hv5 : EdV w4 (fun k => P0 k ∨ w1.heap.size ≤ k) S v4 := (by rw [HS.out]; exact hv4.mono (fun k hk => hk.elim .inl (fun h => .inr (Nat.le_trans hszr h)))); clear hszr; have HR4 := Aside0.mk (blk_below HR.out hbl); have HBL := Aside0.mk hbl; have hqr := blk_frozen HR4.out; obtain ⟨r0, r1, r2, r3, r4, r5, r6, r7, r8, r9⟩ := ten_cells HR4.out; obtain ⟨Ak4, Au4, Ar4, ck4, cu4, cr4, rfl, g1, g2, g3⟩ := hv5.opn; have G1 := Aside0.mk g1; have G2 := Aside0.mk g2; have G3 := Aside0.mk g3; clear hv4 hv5 hb hbl g1 g2 g3))
  obtain ⟨y1, y2, y3⟩ := put_edV (w := w) (s := S) (rb := w.heap.size + 1) G1.out G2.out G3.out (fun k hk => by have h1 := HP1.out k; have h2 := HSZ.out; rcases hk with hk | hk; exact (by have := (h1 hk).2; omega); exact (by have h3 : w1.heap.size ≤ k := hk; omega)) HR4.out (below_step HB1.out HBL.out) (by omega)
  refine bodyPost_ret (results_cell_row rfl _ _ (w.heap.size + 1) 27 _ (0, 0) _ rfl y1 hu27 rfl (by first | rfl | decide)) rfl ?_
  exact ⟨_, rfl, y2.mono (fun k hk => by have h1 := HP1.out k; have h2 := HSZ.out; rcases hk with hk | hk; exact .inl (h1 hk).1; exact .inr (by have h3 : w1.heap.size ≤ k := hk; omega)), y3⟩
set_option maxHeartbeats 16000000 in
set_option maxRecDepth 100000 in
theorem rchange_12 (w : World) (P : Nat → Prop) (s : St) (x : ByteArray) (Al : Option Addr) (cl : Nat) (v : Value) (hv : EdV w P s v) (R : RefOk s) (hx : x.size ≤ 1000000) (hC : Kd.C Kd.string w Al s.lines.length s.lines) :
    Calls Try.prog 30 #[v, .int .i64 12, .string x, .slice Al s.lines.length cl] w fun e w' => ∃ v', e = .returned v' ∧ EdV w' (fun k => P k ∨ w.heap.size ≤ k) (killS s 12 0 s.pos) v' ∧ Below w.heap.size w w' := by
  have hvo := hv.old
  obtain ⟨P0, hP0⟩ : ∃ Q : Nat → Prop, Q = fun k => P k ∧ k < w.heap.size := ⟨_, rfl⟩
  rw [← hP0] at hvo
  have hp1 : ∀ k, P0 k → P k ∧ k < w.heap.size := by intro k hk; rw [hP0] at hk; exact hk
  clear hP0
  obtain ⟨Ak, Au, Ar, ck, cu, cr, rfl, v1, v2, v3⟩ := hvo
  have hu27 := Try.underlying27
  have hu23 := Try.underlying23
  obtain ⟨w1, hw1⟩ : ∃ z, z = (w.alloc (.cells #[.string s.text, .int .i64 s.pos, .int .i64 s.mark, .slice Ak s.kills.length ck, .slice Au s.undo.length cu, .slice Ar s.redo.length cr, .string s.keys, .int .i64 s.last, .int .i64 s.line, .string s.saved] 27)).alloc (.cells #[.string ⟨#[]⟩, .int .i64 0, .int .i64 0, .slice none 0 0, .slice none 0 0, .slice none 0 0, .string ⟨#[]⟩, .int .i64 0, .int .i64 0, .string ⟨#[]⟩] 27) := ⟨_, rfl⟩
  obtain ⟨b1, b2, b3, b4⟩ := box2 w #[.string s.text, .int .i64 s.pos, .int .i64 s.mark, .slice Ak s.kills.length ck, .slice Au s.undo.length cu, .slice Ar s.redo.length cr, .string s.keys, .int .i64 s.last, .int .i64 s.line, .string s.saved] #[.string ⟨#[]⟩, .int .i64 0, .int .i64 0, .slice none 0 0, .slice none 0 0, .slice none 0 0, .string ⟨#[]⟩, .int .i64 0, .int .i64 0, .string ⟨#[]⟩] 27 27
  rw [← hw1] at b1 b2 b3 b4
  have HE := Aside0.mk b1
  have HR := Aside0.mk b2
  have HB1 := Aside0.mk b3
  have HSZ := Aside0.mk b4
  have HP1 := Aside0.mk hp1
  have HW1 := Aside0.mk hw1
  have HV := Aside0.mk (show EdV w1 P0 s (edV s (.slice Ak s.kills.length ck) (.slice Au s.undo.length cu) (.slice Ar s.redo.length cr)) from ⟨Ak, Au, Ar, ck, cu, cr, rfl, Kd.V_below v1 b3, Kd.V_below v2 b3, Kd.V_below v3 b3⟩)
  have K1 := Aside0.mk (Kd.V_below v1 b3)
  have K2 := Aside0.mk (Kd.V_below v2 b3)
  have K3 := Aside0.mk (Kd.V_below v3 b3)
  unfold edV at HV hv ⊢
  obtain ⟨d0, d1, d2, d3, d4, d5, d6, d7, d8, d9⟩ := Box.cells (s := s) b1
  clear hv v1 v2 v3 hw1 b1 b2 b3 b4 hp1
  clear d0 d1 d2 d3 d4 d5 d6 d7 d8 d9
  have HOK := Aside0.mk R.ok
  have h0 := R.ok.low
  have h1 := R.ok.high
  have hts := R.text
  have hm := R.mark
  have HRK := Aside0.mk R
  have KC := Aside0.mk (Kd.C_below hC HB1.out)
  clear R hC
  obtain ⟨S, hS⟩ : ∃ z, z = killS s 12 0 s.pos := ⟨_, rfl⟩
  rw [← hS]
  have HS := Aside0.mk hS
  clear hS
  go_enter Try.func30, Try.ntmps30
  go_upto_region 1 with (fail)
  rw [← HW1.out]
  obtain ⟨d0, d1, d2, d3, d4, d5, d6, d7, d8, d9⟩ := Box.cells (s := s) HE.out
  go_region
  go_upto_region 13 with (fail)
  go_wp2_with (first | (go_at_call 47; refine (rkill_any (w1.drew) P0 s 12 0 s.pos _ (HV.out.below (below_drew (Below.refl w1.heap.size w1))) HOK.out hm HRK.out.kills (Int.le_refl _) h0 h1).mono ?_; rintro e w4 ⟨v4, rfl, hv4, hb⟩; have hbl := below_step (below_drew (Below.refl w1.heap.size w1)) hb; have hszr := (below_drew (Below.refl w1.heap.size w1)).size; have hv5 : EdV w4 (fun k => P0 k ∨ w1.heap.size ≤ k) S v4 := (by rw [HS.out]; exact hv4.mono (fun k hk => hk.elim .inl (fun h => .inr (Nat.le_trans hszr h)))); clear hszr; have HR4 := Aside0.mk (blk_below HR.out hbl); have HBL := Aside0.mk hbl; have hqr := blk_frozen HR4.out; obtain ⟨r0, r1, r2, r3, r4, r5, r6, r7, r8, r9⟩ := ten_cells HR4.out; obtain ⟨Ak4, Au4, Ar4, ck4, cu4, cr4, rfl, g1, g2, g3⟩ := hv5.opn; have G1 := Aside0.mk g1; have G2 := Aside0.mk g2; have G3 := Aside0.mk g3; clear hv4 hv5 hb hbl g1 g2 g3))
  obtain ⟨y1, y2, y3⟩ := put_edV (w := w) (s := S) (rb := w.heap.size + 1) G1.out G2.out G3.out (fun k hk => by have h1 := HP1.out k; have h2 := HSZ.out; rcases hk with hk | hk; exact (by have := (h1 hk).2; omega); exact (by have h3 : w1.heap.size ≤ k := hk; omega)) HR4.out (below_step HB1.out HBL.out) (by omega)
  refine bodyPost_ret (results_cell_row rfl _ _ (w.heap.size + 1) 27 _ (0, 0) _ rfl y1 hu27 rfl (by first | rfl | decide)) rfl ?_
  exact ⟨_, rfl, y2.mono (fun k hk => by have h1 := HP1.out k; have h2 := HSZ.out; rcases hk with hk | hk; exact .inl (h1 hk).1; exact .inr (by have h3 : w1.heap.size ≤ k := hk; omega)), y3⟩
set_option maxHeartbeats 16000000 in
set_option maxRecDepth 100000 in
theorem rchange_13 (w : World) (P : Nat → Prop) (s : St) (x : ByteArray) (Al : Option Addr) (cl : Nat) (v : Value) (hv : EdV w P s v) (R : RefOk s) (hx : x.size ≤ 1000000) (hC : Kd.C Kd.string w Al s.lines.length s.lines) :
    Calls Try.prog 30 #[v, .int .i64 13, .string x, .slice Al s.lines.length cl] w fun e w' => ∃ v', e = .returned v' ∧ EdV w' (fun k => P k ∨ w.heap.size ≤ k) (killS s 13 s.pos ((wordEndS s.text s.pos.toNat : Nat) : Int)) v' ∧ Below w.heap.size w w' := by
  have hvo := hv.old
  obtain ⟨P0, hP0⟩ : ∃ Q : Nat → Prop, Q = fun k => P k ∧ k < w.heap.size := ⟨_, rfl⟩
  rw [← hP0] at hvo
  have hp1 : ∀ k, P0 k → P k ∧ k < w.heap.size := by intro k hk; rw [hP0] at hk; exact hk
  clear hP0
  obtain ⟨Ak, Au, Ar, ck, cu, cr, rfl, v1, v2, v3⟩ := hvo
  have hu27 := Try.underlying27
  have hu23 := Try.underlying23
  obtain ⟨w1, hw1⟩ : ∃ z, z = (w.alloc (.cells #[.string s.text, .int .i64 s.pos, .int .i64 s.mark, .slice Ak s.kills.length ck, .slice Au s.undo.length cu, .slice Ar s.redo.length cr, .string s.keys, .int .i64 s.last, .int .i64 s.line, .string s.saved] 27)).alloc (.cells #[.string ⟨#[]⟩, .int .i64 0, .int .i64 0, .slice none 0 0, .slice none 0 0, .slice none 0 0, .string ⟨#[]⟩, .int .i64 0, .int .i64 0, .string ⟨#[]⟩] 27) := ⟨_, rfl⟩
  obtain ⟨b1, b2, b3, b4⟩ := box2 w #[.string s.text, .int .i64 s.pos, .int .i64 s.mark, .slice Ak s.kills.length ck, .slice Au s.undo.length cu, .slice Ar s.redo.length cr, .string s.keys, .int .i64 s.last, .int .i64 s.line, .string s.saved] #[.string ⟨#[]⟩, .int .i64 0, .int .i64 0, .slice none 0 0, .slice none 0 0, .slice none 0 0, .string ⟨#[]⟩, .int .i64 0, .int .i64 0, .string ⟨#[]⟩] 27 27
  rw [← hw1] at b1 b2 b3 b4
  have HE := Aside0.mk b1
  have HR := Aside0.mk b2
  have HB1 := Aside0.mk b3
  have HSZ := Aside0.mk b4
  have HP1 := Aside0.mk hp1
  have HW1 := Aside0.mk hw1
  have HV := Aside0.mk (show EdV w1 P0 s (edV s (.slice Ak s.kills.length ck) (.slice Au s.undo.length cu) (.slice Ar s.redo.length cr)) from ⟨Ak, Au, Ar, ck, cu, cr, rfl, Kd.V_below v1 b3, Kd.V_below v2 b3, Kd.V_below v3 b3⟩)
  have K1 := Aside0.mk (Kd.V_below v1 b3)
  have K2 := Aside0.mk (Kd.V_below v2 b3)
  have K3 := Aside0.mk (Kd.V_below v3 b3)
  unfold edV at HV hv ⊢
  obtain ⟨d0, d1, d2, d3, d4, d5, d6, d7, d8, d9⟩ := Box.cells (s := s) b1
  clear hv v1 v2 v3 hw1 b1 b2 b3 b4 hp1
  clear d0 d1 d2 d3 d4 d5 d6 d7 d8 d9
  have HOK := Aside0.mk R.ok
  have h0 := R.ok.low
  have h1 := R.ok.high
  have hts := R.text
  have hm := R.mark
  have HRK := Aside0.mk R
  have KC := Aside0.mk (Kd.C_below hC HB1.out)
  clear R hC
  obtain ⟨n, hn⟩ : ∃ n : Nat, s.pos = (n : Int) := ⟨s.pos.toNat, by omega⟩
  have hnt : s.pos.toNat = n := by omega
  rw [hnt]
  have hn1 : n ≤ s.text.size := by omega
  obtain ⟨lim, hlim⟩ : ∃ z, z = wordEndS s.text n := ⟨_, rfl⟩
  rw [← hlim]
  have hl1 : (lim : Int) ≤ (s.text.size : Int) := by have := wordEndS_le s.text n hn1; omega
  have hl0 : s.pos ≤ (lim : Int) := by have := wordEndS_ge s.text n; omega
  have HNF := Aside0.mk (show jobshellref46_next.f (2 * s.text.size + 3) s.text s.pos = some (lim : Int) from by rw [hlim, hn]; exact next_f s.text n hn1 (by omega))
  clear hlim hnt hn hn1
  obtain ⟨S, hS⟩ : ∃ z, z = killS s 13 s.pos (lim : Int) := ⟨_, rfl⟩
  rw [← hS]
  have HS := Aside0.mk hS
  clear hS
  go_enter Try.func30, Try.ntmps30
  go_upto_region 1 with (fail)
  rw [← HW1.out]
  obtain ⟨d0, d1, d2, d3, d4, d5, d6, d7, d8, d9⟩ := Box.cells (s := s) HE.out
  go_region
  go_upto_region 15 with (fail)
  go_region_with (first | (go_at_call 48; refine (jobshellref46_next.calls (2 * s.text.size + 3) s.text s.pos (lim : Int) w1.drew.drew HNF.out).mono ?_; rintro e w2 ⟨rfl, hb⟩; have hbw := below_step (below_drew (below_drew (Below.refl w1.heap.size w1))) hb; have HBW := Aside0.mk hbw; have HE2 := Aside0.mk (blk_below HE.out hbw); obtain ⟨e0, e1, e2, e3, e4, e5, e6, e7, e8, e9⟩ := ten_cells HE2.out; clear hb hbw) | (go_at_call 47; refine (rkill_any w2 P0 s 13 s.pos (lim : Int) _ (HV.out.below HBW.out) HOK.out hm HRK.out.kills h0 hl0 hl1).mono ?_; rintro e w4 ⟨v4, rfl, hv4, hb⟩; have hbl := below_step HBW.out hb; have hszr := HBW.out.size; have hv5 : EdV w4 (fun k => P0 k ∨ w1.heap.size ≤ k) S v4 := (by rw [HS.out]; exact hv4.mono (fun k hk => hk.elim .inl (fun h => .inr (Nat.le_trans hszr h)))); clear hszr e0 e1 e2 e3 e4 e5 e6 e7 e8 e9; have HR4 := Aside0.mk (blk_below HR.out hbl); have HBL := Aside0.mk hbl; have hqr := blk_frozen HR4.out; obtain ⟨r0, r1, r2, r3, r4, r5, r6, r7, r8, r9⟩ := ten_cells HR4.out; obtain ⟨Ak4, Au4, Ar4, ck4, cu4, cr4, rfl, g1, g2, g3⟩ := hv5.opn; have G1 := Aside0.mk g1; have G2 := Aside0.mk g2; have G3 := Aside0.mk g3; clear hv4 hv5 hb hbl g1 g2 g3))
  all_goals
    go_wp2_with (fail)
    obtain ⟨y1, y2, y3⟩ := put_edV (w := w) (s := S) (rb := w.heap.size + 1) G1.out G2.out G3.out (fun k hk => by have h1 := HP1.out k; have h2 := HSZ.out; rcases hk with hk | hk; exact (by have := (h1 hk).2; omega); exact (by have h3 : w1.heap.size ≤ k := hk; omega)) HR4.out (below_step HB1.out HBL.out) (by omega)
    refine bodyPost_ret (results_cell_row rfl _ _ (w.heap.size + 1) 27 _ (0, 0) _ rfl y1 hu27 rfl (by first | rfl | decide)) rfl ?_
    exact ⟨_, rfl, y2.mono (fun k hk => by have h1 := HP1.out k; have h2 := HSZ.out; rcases hk with hk | hk; exact .inl (h1 hk).1; exact .inr (by have h3 : w1.heap.size ≤ k := hk; omega)), y3⟩
set_option maxHeartbeats 16000000 in
set_option maxRecDepth 100000 in
theorem rchange_14 (w : World) (P : Nat → Prop) (s : St) (x : ByteArray) (Al : Option Addr) (cl : Nat) (v : Value) (hv : EdV w P s v) (R : RefOk s) (hx : x.size ≤ 1000000) (hC : Kd.C Kd.string w Al s.lines.length s.lines) :
    Calls Try.prog 30 #[v, .int .i64 14, .string x, .slice Al s.lines.length cl] w fun e w' => ∃ v', e = .returned v' ∧ EdV w' (fun k => P k ∨ w.heap.size ≤ k) (killS s 14 ((wordStartS s.text s.pos.toNat : Nat) : Int) s.pos) v' ∧ Below w.heap.size w w' := by
  have hvo := hv.old
  obtain ⟨P0, hP0⟩ : ∃ Q : Nat → Prop, Q = fun k => P k ∧ k < w.heap.size := ⟨_, rfl⟩
  rw [← hP0] at hvo
  have hp1 : ∀ k, P0 k → P k ∧ k < w.heap.size := by intro k hk; rw [hP0] at hk; exact hk
  clear hP0
  obtain ⟨Ak, Au, Ar, ck, cu, cr, rfl, v1, v2, v3⟩ := hvo
  have hu27 := Try.underlying27
  have hu23 := Try.underlying23
  obtain ⟨w1, hw1⟩ : ∃ z, z = (w.alloc (.cells #[.string s.text, .int .i64 s.pos, .int .i64 s.mark, .slice Ak s.kills.length ck, .slice Au s.undo.length cu, .slice Ar s.redo.length cr, .string s.keys, .int .i64 s.last, .int .i64 s.line, .string s.saved] 27)).alloc (.cells #[.string ⟨#[]⟩, .int .i64 0, .int .i64 0, .slice none 0 0, .slice none 0 0, .slice none 0 0, .string ⟨#[]⟩, .int .i64 0, .int .i64 0, .string ⟨#[]⟩] 27) := ⟨_, rfl⟩
  obtain ⟨b1, b2, b3, b4⟩ := box2 w #[.string s.text, .int .i64 s.pos, .int .i64 s.mark, .slice Ak s.kills.length ck, .slice Au s.undo.length cu, .slice Ar s.redo.length cr, .string s.keys, .int .i64 s.last, .int .i64 s.line, .string s.saved] #[.string ⟨#[]⟩, .int .i64 0, .int .i64 0, .slice none 0 0, .slice none 0 0, .slice none 0 0, .string ⟨#[]⟩, .int .i64 0, .int .i64 0, .string ⟨#[]⟩] 27 27
  rw [← hw1] at b1 b2 b3 b4
  have HE := Aside0.mk b1
  have HR := Aside0.mk b2
  have HB1 := Aside0.mk b3
  have HSZ := Aside0.mk b4
  have HP1 := Aside0.mk hp1
  have HW1 := Aside0.mk hw1
  have HV := Aside0.mk (show EdV w1 P0 s (edV s (.slice Ak s.kills.length ck) (.slice Au s.undo.length cu) (.slice Ar s.redo.length cr)) from ⟨Ak, Au, Ar, ck, cu, cr, rfl, Kd.V_below v1 b3, Kd.V_below v2 b3, Kd.V_below v3 b3⟩)
  have K1 := Aside0.mk (Kd.V_below v1 b3)
  have K2 := Aside0.mk (Kd.V_below v2 b3)
  have K3 := Aside0.mk (Kd.V_below v3 b3)
  unfold edV at HV hv ⊢
  obtain ⟨d0, d1, d2, d3, d4, d5, d6, d7, d8, d9⟩ := Box.cells (s := s) b1
  clear hv v1 v2 v3 hw1 b1 b2 b3 b4 hp1
  clear d0 d1 d2 d3 d4 d5 d6 d7 d8 d9
  have HOK := Aside0.mk R.ok
  have h0 := R.ok.low
  have h1 := R.ok.high
  have hts := R.text
  have hm := R.mark
  have HRK := Aside0.mk R
  have KC := Aside0.mk (Kd.C_below hC HB1.out)
  clear R hC
  obtain ⟨n, hn⟩ : ∃ n : Nat, s.pos = (n : Int) := ⟨s.pos.toNat, by omega⟩
  have hnt : s.pos.toNat = n := by omega
  rw [hnt]
  have hn1 : n ≤ s.text.size := by omega
  obtain ⟨lim, hlim⟩ : ∃ z, z = wordStartS s.text n := ⟨_, rfl⟩
  rw [← hlim]
  have hl1 : (lim : Int) ≤ s.pos := by have := wordStartS_le s.text n; omega
  have hl0 : 0 ≤ (lim : Int) := by omega
  have HNF := Aside0.mk (show jobshellref46_last.f (2 * s.text.size + 3) s.text s.pos = some (lim : Int) from by rw [hlim, hn]; exact last_f s.text n hn1 (by omega))
  clear hlim hnt hn hn1
  obtain ⟨S, hS⟩ : ∃ z, z = killS s 14 (lim : Int) s.pos := ⟨_, rfl⟩
  rw [← hS]
  have HS := Aside0.mk hS
  clear hS
  go_enter Try.func30, Try.ntmps30
  go_upto_region 1 with (fail)
  rw [← HW1.out]
  obtain ⟨d0, d1, d2, d3, d4, d5, d6, d7, d8, d9⟩ := Box.cells (s := s) HE.out
  go_region
  go_upto_region 17 with (fail)
  go_region_with (first | (go_at_call 49; refine (jobshellref46_last.calls (2 * s.text.size + 3) s.text s.pos (lim : Int) w1.drew.drew HNF.out).mono ?_; rintro e w2 ⟨rfl, hb⟩; have hbw := below_step (below_drew (below_drew (Below.refl w1.heap.size w1))) hb; have HBW := Aside0.mk hbw; have HE2 := Aside0.mk (blk_below HE.out hbw); obtain ⟨e0, e1, e2, e3, e4, e5, e6, e7, e8, e9⟩ := ten_cells HE2.out; clear hb hbw) | (go_at_call 47; refine (rkill_any w2 P0 s 14 (lim : Int) s.pos _ (HV.out.below HBW.out) HOK.out hm HRK.out.kills hl0 hl1 h1).mono ?_; rintro e w4 ⟨v4, rfl, hv4, hb⟩; have hbl := below_step HBW.out hb; have hszr := HBW.out.size; have hv5 : EdV w4 (fun k => P0 k ∨ w1.heap.size ≤ k) S v4 := (by rw [HS.out]; exact hv4.mono (fun k hk => hk.elim .inl (fun h => .inr (Nat.le_trans hszr h)))); clear hszr e0 e1 e2 e3 e4 e5 e6 e7 e8 e9; have HR4 := Aside0.mk (blk_below HR.out hbl); have HBL := Aside0.mk hbl; have hqr := blk_frozen HR4.out; obtain ⟨r0, r1, r2, r3, r4, r5, r6, r7, r8, r9⟩ := ten_cells HR4.out; obtain ⟨Ak4, Au4, Ar4, ck4, cu4, cr4, rfl, g1, g2, g3⟩ := hv5.opn; have G1 := Aside0.mk g1; have G2 := Aside0.mk g2; have G3 := Aside0.mk g3; clear hv4 hv5 hb hbl g1 g2 g3))
  all_goals
    go_wp2_with (fail)
    obtain ⟨y1, y2, y3⟩ := put_edV (w := w) (s := S) (rb := w.heap.size + 1) G1.out G2.out G3.out (fun k hk => by have h1 := HP1.out k; have h2 := HSZ.out; rcases hk with hk | hk; exact (by have := (h1 hk).2; omega); exact (by have h3 : w1.heap.size ≤ k := hk; omega)) HR4.out (below_step HB1.out HBL.out) (by omega)
    refine bodyPost_ret (results_cell_row rfl _ _ (w.heap.size + 1) 27 _ (0, 0) _ rfl y1 hu27 rfl (by first | rfl | decide)) rfl ?_
    exact ⟨_, rfl, y2.mono (fun k hk => by have h1 := HP1.out k; have h2 := HSZ.out; rcases hk with hk | hk; exact .inl (h1 hk).1; exact .inr (by have h3 : w1.heap.size ≤ k := hk; omega)), y3⟩
end Go.Proofs.Ytlbbjdggebgabaa.P
end

section
/- The reference's change, second half; change whole. -/
namespace Go.Proofs.Ytlbbjdggebgabaa.P
open Go.RowKit Go.Proofs.YtlbbjdggebgabaaW.PrintWords Go.Proofs.YtlbbjdggebgabaaW.PrintLast Go.Proofs.YtlbbjdggebgabaaW.PrintMore
set_option linter.unusedVariables false
set_option linter.unusedSimpArgs false

set_option maxHeartbeats 16000000 in
set_option maxRecDepth 100000 in
theorem rchange_15 (w : World) (P : Nat → Prop) (s : St) (x : ByteArray) (Al : Option Addr) (cl : Nat) (v : Value) (hv : EdV w P s v) (R : RefOk s) (hx : x.size ≤ 1000000) (hC : Kd.C Kd.string w Al s.lines.length s.lines) :
    Calls Try.prog 30 #[v, .int .i64 15, .string x, .slice Al s.lines.length cl] w fun e w' => ∃ v', e = .returned v' ∧ EdV w' (fun k => P k ∨ w.heap.size ≤ k) (if s.kills = [] then s else insertS s 15 (lastOf s.kills)) v' ∧ Below w.heap.size w w' := by
  have hvo := hv.old
  obtain ⟨P0, hP0⟩ : ∃ Q : Nat → Prop, Q = fun k => P k ∧ k < w.heap.size := ⟨_, rfl⟩
  rw [← hP0] at hvo
  have hp1 : ∀ k, P0 k → P k ∧ k < w.heap.size := by intro k hk; rw [hP0] at hk; exact hk
  clear hP0
  obtain ⟨Ak, Au, Ar, ck, cu, cr, rfl, v1, v2, v3⟩ := hvo
  have hu27 := Try.underlying27
  have hu23 := Try.underlying23
  obtain ⟨w1, hw1⟩ : ∃ z, z = (w.alloc (.cells #[.string s.text, .int .i64 s.pos, .int .i64 s.mark, .slice Ak s.kills.length ck, .slice Au s.undo.length cu, .slice Ar s.redo.length cr, .string s.keys, .int .i64 s.last, .int .i64 s.line, .string s.saved] 27)).alloc (.cells #[.string ⟨#[]⟩, .int .i64 0, .int .i64 0, .slice none 0 0, .slice none 0 0, .slice none 0 0, .string ⟨#[]⟩, .int .i64 0, .int .i64 0, .string ⟨#[]⟩] 27) := ⟨_, rfl⟩
  obtain ⟨b1, b2, b3, b4⟩ := box2 w #[.string s.text, .int .i64 s.pos, .int .i64 s.mark, .slice Ak s.kills.length ck, .slice Au s.undo.length cu, .slice Ar s.redo.length cr, .string s.keys, .int .i64 s.last, .int .i64 s.line, .string s.saved] #[.string ⟨#[]⟩, .int .i64 0, .int .i64 0, .slice none 0 0, .slice none 0 0, .slice none 0 0, .string ⟨#[]⟩, .int .i64 0, .int .i64 0, .string ⟨#[]⟩] 27 27
  rw [← hw1] at b1 b2 b3 b4
  have HE := Aside0.mk b1
  have HR := Aside0.mk b2
  have HB1 := Aside0.mk b3
  have HSZ := Aside0.mk b4
  have HP1 := Aside0.mk hp1
  have HW1 := Aside0.mk hw1
  have HV := Aside0.mk (show EdV w1 P0 s (edV s (.slice Ak s.kills.length ck) (.slice Au s.undo.length cu) (.slice Ar s.redo.length cr)) from ⟨Ak, Au, Ar, ck, cu, cr, rfl, Kd.V_below v1 b3, Kd.V_below v2 b3, Kd.V_below v3 b3⟩)
  have K1 := Aside0.mk (Kd.V_below v1 b3)
  have K2 := Aside0.mk (Kd.V_below v2 b3)
  have K3 := Aside0.mk (Kd.V_below v3 b3)
  unfold edV at HV hv ⊢
  obtain ⟨d0, d1, d2, d3, d4, d5, d6, d7, d8, d9⟩ := Box.cells (s := s) b1
  clear hv v1 v2 v3 hw1 b1 b2 b3 b4 hp1
  clear d0 d1 d2 d3 d4 d5 d6 d7 d8 d9
  have HOK := Aside0.mk R.ok
  have h0 := R.ok.low
  have h1 := R.ok.high
  have hts := R.text
  have hm := R.mark
  have HRK := Aside0.mk R
  have KC := Aside0.mk (Kd.C_below hC HB1.out)
  clear R hC
  have hkl := HOK.out.kills
  have hks := HOK.out.each
  by_cases c : s.kills = []
  · rw [if_pos c]
    have hl : s.kills.length = 0 := by rw [c]; rfl
    have c2 : decide (0 < s.kills.length) = false := decide_eq_false (by omega)
    have c3 : decide (0 < (s.kills.length : Int)) = false := decide_eq_false (by omega)
    clear c hl hks
    go_enter Try.func30, Try.ntmps30
    go_upto_region 1 with (fail)
    rw [← HW1.out]
    obtain ⟨d0, d1, d2, d3, d4, d5, d6, d7, d8, d9⟩ := Box.cells (s := s) HE.out
    go_region
    go_upto_region 37 with (fail)
    obtain ⟨W, hW⟩ : ∃ z, z = w1.drew := ⟨_, rfl⟩
    have hbl : Below w1.heap.size w1 W := by rw [hW]; exact (below_drew (Below.refl w1.heap.size w1))
    have HRX := Aside0.mk (blk_below HR.out hbl)
    have HWW := Aside0.mk hW
    have k1 := Aside0.mk (Kd.V_below K1.out hbl)
    have k2 := Aside0.mk (Kd.V_below K2.out hbl)
    have k3 := Aside0.mk (Kd.V_below K3.out hbl)
    have kb := Aside0.mk (below_step HB1.out hbl)
    have HEX := Aside0.mk (blk_below HE.out hbl)
    clear d0 d1 d2 d3 d4 d5 d6 d7 d8 d9 hbl hW
    rw [← HWW.out]
    obtain ⟨d0, d1, d2, d3, d4, d5, d6, d7, d8, d9⟩ := Box.cells (s := s) HEX.out
    have hqr := blk_frozen HRX.out
    obtain ⟨r0, r1, r2, r3, r4, r5, r6, r7, r8, r9⟩ := ten_cells HRX.out
    go_wp2_with (fail)
    obtain ⟨y1, y2, y3⟩ := put_edV (w := w) (W := W) (s := s) (rb := w.heap.size + 1) k1.out k2.out k3.out (fun k hk => by have := (HP1.out k hk).2; omega) HRX.out kb.out (by omega)
    refine bodyPost_ret (results_cell_row rfl _ _ (w.heap.size + 1) 27 _ (0, 0) _ rfl y1 hu27 rfl (by first | rfl | decide)) rfl ?_
    exact ⟨_, rfl, y2.mono (fun k hk => .inl (HP1.out k hk).1), y3⟩
  · rw [if_neg c]
    have hkp : 0 < s.kills.length := List.length_pos_iff.mpr c
    rcases Ak with _ | ad
    · exact absurd (Kd.V_reads' K1.out).2.2 (by intro hC; obtain ⟨ad, _, ha, _⟩ := Kd.C_get hC ByteArray.empty 0 (by omega) (by omega); cases ha)
    have l1 := Kd.foot_string (Kd.V_reads' K1.out).2.2 ((s.kills.length : Int) - 1) (by omega) (by omega)
    rw [rdOf_last s.kills hkp, show ((s.kills.length : Int) - 1).toNat = s.kills.length - 1 by omega] at l1
    have hz := hks _ (last_mem hkp)
    obtain ⟨old, hold⟩ : ∃ z, z = lastOf s.kills := ⟨_, rfl⟩
    rw [← hold] at l1 hz ⊢
    have e1 : IntKind.i64.wrap ((s.kills.length : Int) - 1) = (s.kills.length : Int) - 1 := by rw [IntKind.wrap_i64]; omega
    have n0 : 1 ≤ (s.kills.length : Int) := by omega
    have n1 : 0 ≤ (s.kills.length : Int) - 1 := by omega
    have n2 : (s.kills.length : Int) - 1 < (s.kills.length : Int) := by omega
    have c2 : decide (0 < s.kills.length) = true := decide_eq_true hkp
    have c3 : decide (0 < (s.kills.length : Int)) = true := decide_eq_true (by omega)
    have HZ := Aside0.mk hz
    clear c hks hold hz
    obtain ⟨S, hS⟩ : ∃ z, z = insertS s 15 old := ⟨_, rfl⟩
    rw [← hS]
    have HS := Aside0.mk hS
    clear hS
    go_enter Try.func30, Try.ntmps30
    go_upto_region 1 with (fail)
    rw [← HW1.out]
    obtain ⟨d0, d1, d2, d3, d4, d5, d6, d7, d8, d9⟩ := Box.cells (s := s) HE.out
    go_region
    go_upto_region 20 with (fail)
    refine wp_region_still_tail 10 (by kernel_rfl) (by kernel_rfl) ?_
    change wpStill _ _ w1.drew.drew (fun a' => wpList _ _ _ _ a' w1.drew.drew) _ _
    simp only [List.take_succ_cons, List.take_zero, List.drop_succ_cons, List.drop_zero]
    repeat still_step
    refine wpStill_nil ?_
    go_wp2_with (first | (go_at_call 45; refine (rput_calls (w1.drew.drew) P0 s old 15 _ (HV.out.below (below_drew (below_drew (Below.refl w1.heap.size w1)))) HOK.out hm HZ.out).mono ?_; rintro e w4 ⟨v4, rfl, hv4, hb⟩; have hbl := below_step (below_drew (below_drew (Below.refl w1.heap.size w1))) hb; have hszr := (below_drew (below_drew (Below.refl w1.heap.size w1))).size; have hv5 : EdV w4 (fun k => P0 k ∨ w1.heap.size ≤ k) S v4 := (by rw [HS.out]; exact hv4.mono (fun k hk => hk.elim .inl (fun h => .inr (Nat.le_trans hszr h)))); clear hszr; have HR4 := Aside0.mk (blk_below HR.out hbl); have HBL := Aside0.mk hbl; have hqr := blk_frozen HR4.out; obtain ⟨r0, r1, r2, r3, r4, r5, r6, r7, r8, r9⟩ := ten_cells HR4.out; obtain ⟨Ak4, Au4, Ar4, ck4, cu4, cr4, rfl, g1, g2, g3⟩ := hv5.opn; have G1 := Aside0.mk g1; have G2 := Aside0.mk g2; have G3 := Aside0.mk g3; clear hv4 hv5 hb hbl g1 g2 g3))
    obtain ⟨y1, y2, y3⟩ := put_edV (w := w) (s := S) (rb := w.heap.size + 1) G1.out G2.out G3.out (fun k hk => by have h1 := HP1.out k; have h2 := HSZ.out; rcases hk with hk | hk; exact (by have := (h1 hk).2; omega); exact (by have h3 : w1.heap.size ≤ k := hk; omega)) HR4.out (below_step HB1.out HBL.out) (by omega)
    refine bodyPost_ret (results_cell_row rfl _ _ (w.heap.size + 1) 27 _ (0, 0) _ rfl y1 hu27 rfl (by first | rfl | decide)) rfl ?_
    exact ⟨_, rfl, y2.mono (fun k hk => by have h1 := HP1.out k; have h2 := HSZ.out; rcases hk with hk | hk; exact .inl (h1 hk).1; exact .inr (by have h3 : w1.heap.size ≤ k := hk; omega)), y3⟩
set_option maxHeartbeats 16000000 in
set_option maxRecDepth 100000 in
theorem rchange_16 (w : World) (P : Nat → Prop) (s : St) (x : ByteArray) (Al : Option Addr) (cl : Nat) (v : Value) (hv : EdV w P s v) (R : RefOk s) (hx : x.size ≤ 1000000) (hC : Kd.C Kd.string w Al s.lines.length s.lines) :
    Calls Try.prog 30 #[v, .int .i64 16, .string x, .slice Al s.lines.length cl] w fun e w' => ∃ v', e = .returned v' ∧ EdV w' (fun k => P k ∨ w.heap.size ≤ k) (rotateS s) v' ∧ Below w.heap.size w w' := by
  have hvo := hv.old
  obtain ⟨P0, hP0⟩ : ∃ Q : Nat → Prop, Q = fun k => P k ∧ k < w.heap.size := ⟨_, rfl⟩
  rw [← hP0] at hvo
  have hp1 : ∀ k, P0 k → P k ∧ k < w.heap.size := by intro k hk; rw [hP0] at hk; exact hk
  clear hP0
  obtain ⟨Ak, Au, Ar, ck, cu, cr, rfl, v1, v2, v3⟩ := hvo
  have hu27 := Try.underlying27
  have hu23 := Try.underlying23
  obtain ⟨w1, hw1⟩ : ∃ z, z = (w.alloc (.cells #[.string s.text, .int .i64 s.pos, .int .i64 s.mark, .slice Ak s.kills.length ck, .slice Au s.undo.length cu, .slice Ar s.redo.length cr, .string s.keys, .int .i64 s.last, .int .i64 s.line, .string s.saved] 27)).alloc (.cells #[.string ⟨#[]⟩, .int .i64 0, .int .i64 0, .slice none 0 0, .slice none 0 0, .slice none 0 0, .string ⟨#[]⟩, .int .i64 0, .int .i64 0, .string ⟨#[]⟩] 27) := ⟨_, rfl⟩
  obtain ⟨b1, b2, b3, b4⟩ := box2 w #[.string s.text, .int .i64 s.pos, .int .i64 s.mark, .slice Ak s.kills.length ck, .slice Au s.undo.length cu, .slice Ar s.redo.length cr, .string s.keys, .int .i64 s.last, .int .i64 s.line, .string s.saved] #[.string ⟨#[]⟩, .int .i64 0, .int .i64 0, .slice none 0 0, .slice none 0 0, .slice none 0 0, .string ⟨#[]⟩, .int .i64 0, .int .i64 0, .string ⟨#[]⟩] 27 27
  rw [← hw1] at b1 b2 b3 b4
  have HE := Aside0.mk b1
  have HR := Aside0.mk b2
  have HB1 := Aside0.mk b3
  have HSZ := Aside0.mk b4
  have HP1 := Aside0.mk hp1
  have HW1 := Aside0.mk hw1
  have HV := Aside0.mk (show EdV w1 P0 s (edV s (.slice Ak s.kills.length ck) (.slice Au s.undo.length cu) (.slice Ar s.redo.length cr)) from ⟨Ak, Au, Ar, ck, cu, cr, rfl, Kd.V_below v1 b3, Kd.V_below v2 b3, Kd.V_below v3 b3⟩)
  have K1 := Aside0.mk (Kd.V_below v1 b3)
  have K2 := Aside0.mk (Kd.V_below v2 b3)
  have K3 := Aside0.mk (Kd.V_below v3 b3)
  unfold edV at HV hv ⊢
  obtain ⟨d0, d1, d2, d3, d4, d5, d6, d7, d8, d9⟩ := Box.cells (s := s) b1
  clear hv v1 v2 v3 hw1 b1 b2 b3 b4 hp1
  clear d0 d1 d2 d3 d4 d5 d6 d7 d8 d9
  have HOK := Aside0.mk R.ok
  have h0 := R.ok.low
  have h1 := R.ok.high
  have hts := R.text
  have hm := R.mark
  have HRK := Aside0.mk R
  have KC := Aside0.mk (Kd.C_below hC HB1.out)
  clear R hC
  obtain ⟨S, hS⟩ : ∃ z, z = rotateS s := ⟨_, rfl⟩
  rw [← hS]
  have HS := Aside0.mk hS
  clear hS
  go_enter Try.func30, Try.ntmps30
  go_upto_region 1 with (fail)
  rw [← HW1.out]
  obtain ⟨d0, d1, d2, d3, d4, d5, d6, d7, d8, d9⟩ := Box.cells (s := s) HE.out
  go_region
  go_upto_region 22 with (fail)
  go_wp2_with (first | (go_at_call 50; refine (rrot_calls (w1.drew) P0 s _ (HV.out.below (below_drew (Below.refl w1.heap.size w1))) HOK.out hm).mono ?_; rintro e w4 ⟨v4, rfl, hv4, hb⟩; have hbl := below_step (below_drew (Below.refl w1.heap.size w1)) hb; have hszr := (below_drew (Below.refl w1.heap.size w1)).size; have hv5 : EdV w4 (fun k => P0 k ∨ w1.heap.size ≤ k) S v4 := (by rw [HS.out]; exact hv4.mono (fun k hk => hk.elim .inl (fun h => .inr (Nat.le_trans hszr h)))); clear hszr; have HR4 := Aside0.mk (blk_below HR.out hbl); have HBL := Aside0.mk hbl; have hqr := blk_frozen HR4.out; obtain ⟨r0, r1, r2, r3, r4, r5, r6, r7, r8, r9⟩ := ten_cells HR4.out; obtain ⟨Ak4, Au4, Ar4, ck4, cu4, cr4, rfl, g1, g2, g3⟩ := hv5.opn; have G1 := Aside0.mk g1; have G2 := Aside0.mk g2; have G3 := Aside0.mk g3; clear hv4 hv5 hb hbl g1 g2 g3))
  obtain ⟨y1, y2, y3⟩ := put_edV (w := w) (s := S) (rb := w.heap.size + 1) G1.out G2.out G3.out (fun k hk => by have h1 := HP1.out k; have h2 := HSZ.out; rcases hk with hk | hk; exact (by have := (h1 hk).2; omega); exact (by have h3 : w1.heap.size ≤ k := hk; omega)) HR4.out (below_step HB1.out HBL.out) (by omega)
  refine bodyPost_ret (results_cell_row rfl _ _ (w.heap.size + 1) 27 _ (0, 0) _ rfl y1 hu27 rfl (by first | rfl | decide)) rfl ?_
  exact ⟨_, rfl, y2.mono (fun k hk => by have h1 := HP1.out k; have h2 := HSZ.out; rcases hk with hk | hk; exact .inl (h1 hk).1; exact .inr (by have h3 : w1.heap.size ≤ k := hk; omega)), y3⟩
set_option maxHeartbeats 16000000 in
set_option maxRecDepth 100000 in
theorem rchange_17 (w : World) (P : Nat → Prop) (s : St) (x : ByteArray) (Al : Option Addr) (cl : Nat) (v : Value) (hv : EdV w P s v) (R : RefOk s) (hx : x.size ≤ 1000000) (hC : Kd.C Kd.string w Al s.lines.length s.lines) :
    Calls Try.prog 30 #[v, .int .i64 17, .string x, .slice Al s.lines.length cl] w fun e w' => ∃ v', e = .returned v' ∧ EdV w' (fun k => P k ∨ w.heap.size ≤ k) (undoS s) v' ∧ Below w.heap.size w w' := by
  have hvo := hv.old
  obtain ⟨P0, hP0⟩ : ∃ Q : Nat → Prop, Q = fun k => P k ∧ k < w.heap.size := ⟨_, rfl⟩
  rw [← hP0] at hvo
  have hp1 : ∀ k, P0 k → P k ∧ k < w.heap.size := by intro k hk; rw [hP0] at hk; exact hk
  clear hP0
  obtain ⟨Ak, Au, Ar, ck, cu, cr, rfl, v1, v2, v3⟩ := hvo
  have hu27 := Try.underlying27
  have hu23 := Try.underlying23
  obtain ⟨w1, hw1⟩ : ∃ z, z = (w.alloc (.cells #[.string s.text, .int .i64 s.pos, .int .i64 s.mark, .slice Ak s.kills.length ck, .slice Au s.undo.length cu, .slice Ar s.redo.length cr, .string s.keys, .int .i64 s.last, .int .i64 s.line, .string s.saved] 27)).alloc (.cells #[.string ⟨#[]⟩, .int .i64 0, .int .i64 0, .slice none 0 0, .slice none 0 0, .slice none 0 0, .string ⟨#[]⟩, .int .i64 0, .int .i64 0, .string ⟨#[]⟩] 27) := ⟨_, rfl⟩
  obtain ⟨b1, b2, b3, b4⟩ := box2 w #[.string s.text, .int .i64 s.pos, .int .i64 s.mark, .slice Ak s.kills.length ck, .slice Au s.undo.length cu, .slice Ar s.redo.length cr, .string s.keys, .int .i64 s.last, .int .i64 s.line, .string s.saved] #[.string ⟨#[]⟩, .int .i64 0, .int .i64 0, .slice none 0 0, .slice none 0 0, .slice none 0 0, .string ⟨#[]⟩, .int .i64 0, .int .i64 0, .string ⟨#[]⟩] 27 27
  rw [← hw1] at b1 b2 b3 b4
  have HE := Aside0.mk b1
  have HR := Aside0.mk b2
  have HB1 := Aside0.mk b3
  have HSZ := Aside0.mk b4
  have HP1 := Aside0.mk hp1
  have HW1 := Aside0.mk hw1
  have HV := Aside0.mk (show EdV w1 P0 s (edV s (.slice Ak s.kills.length ck) (.slice Au s.undo.length cu) (.slice Ar s.redo.length cr)) from ⟨Ak, Au, Ar, ck, cu, cr, rfl, Kd.V_below v1 b3, Kd.V_below v2 b3, Kd.V_below v3 b3⟩)
  have K1 := Aside0.mk (Kd.V_below v1 b3)
  have K2 := Aside0.mk (Kd.V_below v2 b3)
  have K3 := Aside0.mk (Kd.V_below v3 b3)
  unfold edV at HV hv ⊢
  obtain ⟨d0, d1, d2, d3, d4, d5, d6, d7, d8, d9⟩ := Box.cells (s := s) b1
  clear hv v1 v2 v3 hw1 b1 b2 b3 b4 hp1
  clear d0 d1 d2 d3 d4 d5 d6 d7 d8 d9
  have HOK := Aside0.mk R.ok
  have h0 := R.ok.low
  have h1 := R.ok.high
  have hts := R.text
  have hm := R.mark
  have HRK := Aside0.mk R
  have KC := Aside0.mk (Kd.C_below hC HB1.out)
  clear R hC
  obtain ⟨S, hS⟩ : ∃ z, z = undoS s := ⟨_, rfl⟩
  rw [← hS]
  have HS := Aside0.mk hS
  clear hS
  go_enter Try.func30, Try.ntmps30
  go_upto_region 1 with (fail)
  rw [← HW1.out]
  obtain ⟨d0, d1, d2, d3, d4, d5, d6, d7, d8, d9⟩ := Box.cells (s := s) HE.out
  go_region
  go_upto_region 24 with (fail)
  go_wp2_with (first | (go_at_call 51; refine (rback_undo (w1.drew) P0 s _ (HV.out.below (below_drew (Below.refl w1.heap.size w1))) HOK.out).mono ?_; rintro e w4 ⟨v4, rfl, hv4, hb⟩; have hbl := below_step (below_drew (Below.refl w1.heap.size w1)) hb; have hszr := (below_drew (Below.refl w1.heap.size w1)).size; have hv5 : EdV w4 (fun k => P0 k ∨ w1.heap.size ≤ k) S v4 := (by rw [HS.out]; exact hv4.mono (fun k hk => hk.elim .inl (fun h => .inr (Nat.le_trans hszr h)))); clear hszr; have HR4 := Aside0.mk (blk_below HR.out hbl); have HBL := Aside0.mk hbl; have hqr := blk_frozen HR4.out; obtain ⟨r0, r1, r2, r3, r4, r5, r6, r7, r8, r9⟩ := ten_cells HR4.out; obtain ⟨Ak4, Au4, Ar4, ck4, cu4, cr4, rfl, g1, g2, g3⟩ := hv5.opn; have G1 := Aside0.mk g1; have G2 := Aside0.mk g2; have G3 := Aside0.mk g3; clear hv4 hv5 hb hbl g1 g2 g3))
  obtain ⟨y1, y2, y3⟩ := put_edV (w := w) (s := S) (rb := w.heap.size + 1) G1.out G2.out G3.out (fun k hk => by have h1 := HP1.out k; have h2 := HSZ.out; rcases hk with hk | hk; exact (by have := (h1 hk).2; omega); exact (by have h3 : w1.heap.size ≤ k := hk; omega)) HR4.out (below_step HB1.out HBL.out) (by omega)
  refine bodyPost_ret (results_cell_row rfl _ _ (w.heap.size + 1) 27 _ (0, 0) _ rfl y1 hu27 rfl (by first | rfl | decide)) rfl ?_
  exact ⟨_, rfl, y2.mono (fun k hk => by have h1 := HP1.out k; have h2 := HSZ.out; rcases hk with hk | hk; exact .inl (h1 hk).1; exact .inr (by have h3 : w1.heap.size ≤ k := hk; omega)), y3⟩
set_option maxHeartbeats 16000000 in
set_option maxRecDepth 100000 in
theorem rchange_18 (w : World) (P : Nat → Prop) (s : St) (x : ByteArray) (Al : Option Addr) (cl : Nat) (v : Value) (hv : EdV w P s v) (R : RefOk s) (hx : x.size ≤ 1000000) (hC : Kd.C Kd.string w Al s.lines.length s.lines) :
    Calls Try.prog 30 #[v, .int .i64 18, .string x, .slice Al s.lines.length cl] w fun e w' => ∃ v', e = .returned v' ∧ EdV w' (fun k => P k ∨ w.heap.size ≤ k) (redoS s) v' ∧ Below w.heap.size w w' := by
  have hvo := hv.old
  obtain ⟨P0, hP0⟩ : ∃ Q : Nat → Prop, Q = fun k => P k ∧ k < w.heap.size := ⟨_, rfl⟩
  rw [← hP0] at hvo
  have hp1 : ∀ k, P0 k → P k ∧ k < w.heap.size := by intro k hk; rw [hP0] at hk; exact hk
  clear hP0
  obtain ⟨Ak, Au, Ar, ck, cu, cr, rfl, v1, v2, v3⟩ := hvo
  have hu27 := Try.underlying27
  have hu23 := Try.underlying23
  obtain ⟨w1, hw1⟩ : ∃ z, z = (w.alloc (.cells #[.string s.text, .int .i64 s.pos, .int .i64 s.mark, .slice Ak s.kills.length ck, .slice Au s.undo.length cu, .slice Ar s.redo.length cr, .string s.keys, .int .i64 s.last, .int .i64 s.line, .string s.saved] 27)).alloc (.cells #[.string ⟨#[]⟩, .int .i64 0, .int .i64 0, .slice none 0 0, .slice none 0 0, .slice none 0 0, .string ⟨#[]⟩, .int .i64 0, .int .i64 0, .string ⟨#[]⟩] 27) := ⟨_, rfl⟩
  obtain ⟨b1, b2, b3, b4⟩ := box2 w #[.string s.text, .int .i64 s.pos, .int .i64 s.mark, .slice Ak s.kills.length ck, .slice Au s.undo.length cu, .slice Ar s.redo.length cr, .string s.keys, .int .i64 s.last, .int .i64 s.line, .string s.saved] #[.string ⟨#[]⟩, .int .i64 0, .int .i64 0, .slice none 0 0, .slice none 0 0, .slice none 0 0, .string ⟨#[]⟩, .int .i64 0, .int .i64 0, .string ⟨#[]⟩] 27 27
  rw [← hw1] at b1 b2 b3 b4
  have HE := Aside0.mk b1
  have HR := Aside0.mk b2
  have HB1 := Aside0.mk b3
  have HSZ := Aside0.mk b4
  have HP1 := Aside0.mk hp1
  have HW1 := Aside0.mk hw1
  have HV := Aside0.mk (show EdV w1 P0 s (edV s (.slice Ak s.kills.length ck) (.slice Au s.undo.length cu) (.slice Ar s.redo.length cr)) from ⟨Ak, Au, Ar, ck, cu, cr, rfl, Kd.V_below v1 b3, Kd.V_below v2 b3, Kd.V_below v3 b3⟩)
  have K1 := Aside0.mk (Kd.V_below v1 b3)
  have K2 := Aside0.mk (Kd.V_below v2 b3)
  have K3 := Aside0.mk (Kd.V_below v3 b3)
  unfold edV at HV hv ⊢
  obtain ⟨d0, d1, d2, d3, d4, d5, d6, d7, d8, d9⟩ := Box.cells (s := s) b1
  clear hv v1 v2 v3 hw1 b1 b2 b3 b4 hp1
  clear d0 d1 d2 d3 d4 d5 d6 d7 d8 d9
  have HOK := Aside0.mk R.ok
  have h0 := R.ok.low
  have h1 := R.ok.high
  have hts := R.text
  have hm := R.mark
  have HRK := Aside0.mk R
  have KC := Aside0.mk (Kd.C_below hC HB1.out)
  clear R hC
  obtain ⟨S, hS⟩ : ∃ z, z = redoS s := ⟨_, rfl⟩
  rw [← hS]
  have HS := Aside0.mk hS
  clear hS
  go_enter Try.func30, Try.ntmps30
  go_upto_region 1 with (fail)
  rw [← HW1.out]
  obtain ⟨d0, d1, d2, d3, d4, d5, d6, d7, d8, d9⟩ := Box.cells (s := s) HE.out
  go_region
  go_upto_region 26 with (fail)
  go_wp2_with (first | (go_at_call 51; refine (rback_redo (w1.drew) P0 s _ (HV.out.below (below_drew (Below.refl w1.heap.size w1))) HOK.out).mono ?_; rintro e w4 ⟨v4, rfl, hv4, hb⟩; have hbl := below_step (below_drew (Below.refl w1.heap.size w1)) hb; have hszr := (below_drew (Below.refl w1.heap.size w1)).size; have hv5 : EdV w4 (fun k => P0 k ∨ w1.heap.size ≤ k) S v4 := (by rw [HS.out]; exact hv4.mono (fun k hk => hk.elim .inl (fun h => .inr (Nat.le_trans hszr h)))); clear hszr; have HR4 := Aside0.mk (blk_below HR.out hbl); have HBL := Aside0.mk hbl; have hqr := blk_frozen HR4.out; obtain ⟨r0, r1, r2, r3, r4, r5, r6, r7, r8, r9⟩ := ten_cells HR4.out; obtain ⟨Ak4, Au4, Ar4, ck4, cu4, cr4, rfl, g1, g2, g3⟩ := hv5.opn; have G1 := Aside0.mk g1; have G2 := Aside0.mk g2; have G3 := Aside0.mk g3; clear hv4 hv5 hb hbl g1 g2 g3))
  obtain ⟨y1, y2, y3⟩ := put_edV (w := w) (s := S) (rb := w.heap.size + 1) G1.out G2.out G3.out (fun k hk => by have h1 := HP1.out k; have h2 := HSZ.out; rcases hk with hk | hk; exact (by have := (h1 hk).2; omega); exact (by have h3 : w1.heap.size ≤ k := hk; omega)) HR4.out (below_step HB1.out HBL.out) (by omega)
  refine bodyPost_ret (results_cell_row rfl _ _ (w.heap.size + 1) 27 _ (0, 0) _ rfl y1 hu27 rfl (by first | rfl | decide)) rfl ?_
  exact ⟨_, rfl, y2.mono (fun k hk => by have h1 := HP1.out k; have h2 := HSZ.out; rcases hk with hk | hk; exact .inl (h1 hk).1; exact .inr (by have h3 : w1.heap.size ≤ k := hk; omega)), y3⟩
set_option maxHeartbeats 16000000 in
set_option maxRecDepth 100000 in
theorem rchange_19 (w : World) (P : Nat → Prop) (s : St) (x : ByteArray) (Al : Option Addr) (cl : Nat) (v : Value) (hv : EdV w P s v) (R : RefOk s) (hx : x.size ≤ 1000000) (hC : Kd.C Kd.string w Al s.lines.length s.lines) :
    Calls Try.prog 30 #[v, .int .i64 19, .string x, .slice Al s.lines.length cl] w fun e w' => ∃ v', e = .returned v' ∧ EdV w' (fun k => P k ∨ w.heap.size ≤ k) (transS s) v' ∧ Below w.heap.size w w' := by
  have hvo := hv.old
  obtain ⟨P0, hP0⟩ : ∃ Q : Nat → Prop, Q = fun k => P k ∧ k < w.heap.size := ⟨_, rfl⟩
  rw [← hP0] at hvo
  have hp1 : ∀ k, P0 k → P k ∧ k < w.heap.size := by intro k hk; rw [hP0] at hk; exact hk
  clear hP0
  obtain ⟨Ak, Au, Ar, ck, cu, cr, rfl, v1, v2, v3⟩ := hvo
  have hu27 := Try.underlying27
  have hu23 := Try.underlying23
  obtain ⟨w1, hw1⟩ : ∃ z, z = (w.alloc (.cells #[.string s.text, .int .i64 s.pos, .int .i64 s.mark, .slice Ak s.kills.length ck, .slice Au s.undo.length cu, .slice Ar s.redo.length cr, .string s.keys, .int .i64 s.last, .int .i64 s.line, .string s.saved] 27)).alloc (.cells #[.string ⟨#[]⟩, .int .i64 0, .int .i64 0, .slice none 0 0, .slice none 0 0, .slice none 0 0, .string ⟨#[]⟩, .int .i64 0, .int .i64 0, .string ⟨#[]⟩] 27) := ⟨_, rfl⟩
  obtain ⟨b1, b2, b3, b4⟩ := box2 w #[.string s.text, .int .i64 s.pos, .int .i64 s.mark, .slice Ak s.kills.length ck, .slice Au s.undo.length cu, .slice Ar s.redo.length cr, .string s.keys, .int .i64 s.last, .int .i64 s.line, .string s.saved] #[.string ⟨#[]⟩, .int .i64 0, .int .i64 0, .slice none 0 0, .slice none 0 0, .slice none 0 0, .string ⟨#[]⟩, .int .i64 0, .int .i64 0, .string ⟨#[]⟩] 27 27
  rw [← hw1] at b1 b2 b3 b4
  have HE := Aside0.mk b1
  have HR := Aside0.mk b2
  have HB1 := Aside0.mk b3
  have HSZ := Aside0.mk b4
  have HP1 := Aside0.mk hp1
  have HW1 := Aside0.mk hw1
  have HV := Aside0.mk (show EdV w1 P0 s (edV s (.slice Ak s.kills.length ck) (.slice Au s.undo.length cu) (.slice Ar s.redo.length cr)) from ⟨Ak, Au, Ar, ck, cu, cr, rfl, Kd.V_below v1 b3, Kd.V_below v2 b3, Kd.V_below v3 b3⟩)
  have K1 := Aside0.mk (Kd.V_below v1 b3)
  have K2 := Aside0.mk (Kd.V_below v2 b3)
  have K3 := Aside0.mk (Kd.V_below v3 b3)
  unfold edV at HV hv ⊢
  obtain ⟨d0, d1, d2, d3, d4, d5, d6, d7, d8, d9⟩ := Box.cells (s := s) b1
  clear hv v1 v2 v3 hw1 b1 b2 b3 b4 hp1
  clear d0 d1 d2 d3 d4 d5 d6 d7 d8 d9
  have HOK := Aside0.mk R.ok
  have h0 := R.ok.low
  have h1 := R.ok.high
  have hts := R.text
  have hm := R.mark
  have HRK := Aside0.mk R
  have KC := Aside0.mk (Kd.C_below hC HB1.out)
  clear R hC
  obtain ⟨S, hS⟩ : ∃ z, z = transS s := ⟨_, rfl⟩
  rw [← hS]
  have HS := Aside0.mk hS
  clear hS
  go_enter Try.func30, Try.ntmps30
  go_upto_region 1 with (fail)
  rw [← HW1.out]
  obtain ⟨d0, d1, d2, d3, d4, d5, d6, d7, d8, d9⟩ := Box.cells (s := s) HE.out
  go_region
  go_upto_region 28 with (fail)
  go_wp2_with (first | (go_at_call 52; refine (rtrans_calls (w1.drew) P0 s _ (HV.out.below (below_drew (Below.refl w1.heap.size w1))) HOK.out hm).mono ?_; rintro e w4 ⟨v4, rfl, hv4, hb⟩; have hbl := below_step (below_drew (Below.refl w1.heap.size w1)) hb; have hszr := (below_drew (Below.refl w1.heap.size w1)).size; have hv5 : EdV w4 (fun k => P0 k ∨ w1.heap.size ≤ k) S v4 := (by rw [HS.out]; exact hv4.mono (fun k hk => hk.elim .inl (fun h => .inr (Nat.le_trans hszr h)))); clear hszr; have HR4 := Aside0.mk (blk_below HR.out hbl); have HBL := Aside0.mk hbl; have hqr := blk_frozen HR4.out; obtain ⟨r0, r1, r2, r3, r4, r5, r6, r7, r8, r9⟩ := ten_cells HR4.out; obtain ⟨Ak4, Au4, Ar4, ck4, cu4, cr4, rfl, g1, g2, g3⟩ := hv5.opn; have G1 := Aside0.mk g1; have G2 := Aside0.mk g2; have G3 := Aside0.mk g3; clear hv4 hv5 hb hbl g1 g2 g3))
  obtain ⟨y1, y2, y3⟩ := put_edV (w := w) (s := S) (rb := w.heap.size + 1) G1.out G2.out G3.out (fun k hk => by have h1 := HP1.out k; have h2 := HSZ.out; rcases hk with hk | hk; exact (by have := (h1 hk).2; omega); exact (by have h3 : w1.heap.size ≤ k := hk; omega)) HR4.out (below_step HB1.out HBL.out) (by omega)
  refine bodyPost_ret (results_cell_row rfl _ _ (w.heap.size + 1) 27 _ (0, 0) _ rfl y1 hu27 rfl (by first | rfl | decide)) rfl ?_
  exact ⟨_, rfl, y2.mono (fun k hk => by have h1 := HP1.out k; have h2 := HSZ.out; rcases hk with hk | hk; exact .inl (h1 hk).1; exact .inr (by have h3 : w1.heap.size ≤ k := hk; omega)), y3⟩
set_option maxHeartbeats 16000000 in
set_option maxRecDepth 100000 in
theorem rchange_20 (w : World) (P : Nat → Prop) (s : St) (x : ByteArray) (Al : Option Addr) (cl : Nat) (v : Value) (hv : EdV w P s v) (R : RefOk s) (hx : x.size ≤ 1000000) (hC : Kd.C Kd.string w Al s.lines.length s.lines) :
    Calls Try.prog 30 #[v, .int .i64 20, .string x, .slice Al s.lines.length cl] w fun e w' => ∃ v', e = .returned v' ∧ EdV w' (fun k => P k ∨ w.heap.size ≤ k) (upS s) v' ∧ Below w.heap.size w w' := by
  have hvo := hv.old
  obtain ⟨P0, hP0⟩ : ∃ Q : Nat → Prop, Q = fun k => P k ∧ k < w.heap.size := ⟨_, rfl⟩
  rw [← hP0] at hvo
  have hp1 : ∀ k, P0 k → P k ∧ k < w.heap.size := by intro k hk; rw [hP0] at hk; exact hk
  clear hP0
  obtain ⟨Ak, Au, Ar, ck, cu, cr, rfl, v1, v2, v3⟩ := hvo
  have hu27 := Try.underlying27
  have hu23 := Try.underlying23
  obtain ⟨w1, hw1⟩ : ∃ z, z = (w.alloc (.cells #[.string s.text, .int .i64 s.pos, .int .i64 s.mark, .slice Ak s.kills.length ck, .slice Au s.undo.length cu, .slice Ar s.redo.length cr, .string s.keys, .int .i64 s.last, .int .i64 s.line, .string s.saved] 27)).alloc (.cells #[.string ⟨#[]⟩, .int .i64 0, .int .i64 0, .slice none 0 0, .slice none 0 0, .slice none 0 0, .string ⟨#[]⟩, .int .i64 0, .int .i64 0, .string ⟨#[]⟩] 27) := ⟨_, rfl⟩
  obtain ⟨b1, b2, b3, b4⟩ := box2 w #[.string s.text, .int .i64 s.pos, .int .i64 s.mark, .slice Ak s.kills.length ck, .slice Au s.undo.length cu, .slice Ar s.redo.length cr, .string s.keys, .int .i64 s.last, .int .i64 s.line, .string s.saved] #[.string ⟨#[]⟩, .int .i64 0, .int .i64 0, .slice none 0 0, .slice none 0 0, .slice none 0 0, .string ⟨#[]⟩, .int .i64 0, .int .i64 0, .string ⟨#[]⟩] 27 27
  rw [← hw1] at b1 b2 b3 b4
  have HE := Aside0.mk b1
  have HR := Aside0.mk b2
  have HB1 := Aside0.mk b3
  have HSZ := Aside0.mk b4
  have HP1 := Aside0.mk hp1
  have HW1 := Aside0.mk hw1
  have HV := Aside0.mk (show EdV w1 P0 s (edV s (.slice Ak s.kills.length ck) (.slice Au s.undo.length cu) (.slice Ar s.redo.length cr)) from ⟨Ak, Au, Ar, ck, cu, cr, rfl, Kd.V_below v1 b3, Kd.V_below v2 b3, Kd.V_below v3 b3⟩)
  have K1 := Aside0.mk (Kd.V_below v1 b3)
  have K2 := Aside0.mk (Kd.V_below v2 b3)
  have K3 := Aside0.mk (Kd.V_below v3 b3)
  unfold edV at HV hv ⊢
  obtain ⟨d0, d1, d2, d3, d4, d5, d6, d7, d8, d9⟩ := Box.cells (s := s) b1
  clear hv v1 v2 v3 hw1 b1 b2 b3 b4 hp1
  clear d0 d1 d2 d3 d4 d5 d6 d7 d8 d9
  have HOK := Aside0.mk R.ok
  have h0 := R.ok.low
  have h1 := R.ok.high
  have hts := R.text
  have hm := R.mark
  have HRK := Aside0.mk R
  have KC := Aside0.mk (Kd.C_below hC HB1.out)
  clear R hC
  obtain ⟨S, hS⟩ : ∃ z, z = upS s := ⟨_, rfl⟩
  rw [← hS]
  have HS := Aside0.mk hS
  clear hS
  go_enter Try.func30, Try.ntmps30
  go_upto_region 1 with (fail)
  rw [← HW1.out]
  obtain ⟨d0, d1, d2, d3, d4, d5, d6, d7, d8, d9⟩ := Box.cells (s := s) HE.out
  go_region
  go_upto_region 30 with (fail)
  go_wp2_with (first | (go_at_call 53; refine (rup_calls (w1.drew) P0 s Al cl _ (HV.out.below (below_drew (Below.refl w1.heap.size w1))) HOK.out (Kd.C_drew KC.out)).mono ?_; rintro e w4 ⟨v4, rfl, hv4, hb⟩; have hbl := below_step (below_drew (Below.refl w1.heap.size w1)) hb; have hszr := (below_drew (Below.refl w1.heap.size w1)).size; have hv5 : EdV w4 (fun k => P0 k ∨ w1.heap.size ≤ k) S v4 := (by rw [HS.out]; exact hv4.mono (fun k hk => hk.elim .inl (fun h => .inr (Nat.le_trans hszr h)))); clear hszr; have HR4 := Aside0.mk (blk_below HR.out hbl); have HBL := Aside0.mk hbl; have hqr := blk_frozen HR4.out; obtain ⟨r0, r1, r2, r3, r4, r5, r6, r7, r8, r9⟩ := ten_cells HR4.out; obtain ⟨Ak4, Au4, Ar4, ck4, cu4, cr4, rfl, g1, g2, g3⟩ := hv5.opn; have G1 := Aside0.mk g1; have G2 := Aside0.mk g2; have G3 := Aside0.mk g3; clear hv4 hv5 hb hbl g1 g2 g3))
  obtain ⟨y1, y2, y3⟩ := put_edV (w := w) (s := S) (rb := w.heap.size + 1) G1.out G2.out G3.out (fun k hk => by have h1 := HP1.out k; have h2 := HSZ.out; rcases hk with hk | hk; exact (by have := (h1 hk).2; omega); exact (by have h3 : w1.heap.size ≤ k := hk; omega)) HR4.out (below_step HB1.out HBL.out) (by omega)
  refine bodyPost_ret (results_cell_row rfl _ _ (w.heap.size + 1) 27 _ (0, 0) _ rfl y1 hu27 rfl (by first | rfl | decide)) rfl ?_
  exact ⟨_, rfl, y2.mono (fun k hk => by have h1 := HP1.out k; have h2 := HSZ.out; rcases hk with hk | hk; exact .inl (h1 hk).1; exact .inr (by have h3 : w1.heap.size ≤ k := hk; omega)), y3⟩
set_option maxHeartbeats 16000000 in
set_option maxRecDepth 100000 in
theorem rchange_21 (w : World) (P : Nat → Prop) (s : St) (x : ByteArray) (Al : Option Addr) (cl : Nat) (v : Value) (hv : EdV w P s v) (R : RefOk s) (hx : x.size ≤ 1000000) (hC : Kd.C Kd.string w Al s.lines.length s.lines) :
    Calls Try.prog 30 #[v, .int .i64 21, .string x, .slice Al s.lines.length cl] w fun e w' => ∃ v', e = .returned v' ∧ EdV w' (fun k => P k ∨ w.heap.size ≤ k) (downS s) v' ∧ Below w.heap.size w w' := by
  have hvo := hv.old
  obtain ⟨P0, hP0⟩ : ∃ Q : Nat → Prop, Q = fun k => P k ∧ k < w.heap.size := ⟨_, rfl⟩
  rw [← hP0] at hvo
  have hp1 : ∀ k, P0 k → P k ∧ k < w.heap.size := by intro k hk; rw [hP0] at hk; exact hk
  clear hP0
  obtain ⟨Ak, Au, Ar, ck, cu, cr, rfl, v1, v2, v3⟩ := hvo
  have hu27 := Try.underlying27
  have hu23 := Try.underlying23
  obtain ⟨w1, hw1⟩ : ∃ z, z = (w.alloc (.cells #[.string s.text, .int .i64 s.pos, .int .i64 s.mark, .slice Ak s.kills.length ck, .slice Au s.undo.length cu, .slice Ar s.redo.length cr, .string s.keys, .int .i64 s.last, .int .i64 s.line, .string s.saved] 27)).alloc (.cells #[.string ⟨#[]⟩, .int .i64 0, .int .i64 0, .slice none 0 0, .slice none 0 0, .slice none 0 0, .string ⟨#[]⟩, .int .i64 0, .int .i64 0, .string ⟨#[]⟩] 27) := ⟨_, rfl⟩
  obtain ⟨b1, b2, b3, b4⟩ := box2 w #[.string s.text, .int .i64 s.pos, .int .i64 s.mark, .slice Ak s.kills.length ck, .slice Au s.undo.length cu, .slice Ar s.redo.length cr, .string s.keys, .int .i64 s.last, .int .i64 s.line, .string s.saved] #[.string ⟨#[]⟩, .int .i64 0, .int .i64 0, .slice none 0 0, .slice none 0 0, .slice none 0 0, .string ⟨#[]⟩, .int .i64 0, .int .i64 0, .string ⟨#[]⟩] 27 27
  rw [← hw1] at b1 b2 b3 b4
  have HE := Aside0.mk b1
  have HR := Aside0.mk b2
  have HB1 := Aside0.mk b3
  have HSZ := Aside0.mk b4
  have HP1 := Aside0.mk hp1
  have HW1 := Aside0.mk hw1
  have HV := Aside0.mk (show EdV w1 P0 s (edV s (.slice Ak s.kills.length ck) (.slice Au s.undo.length cu) (.slice Ar s.redo.length cr)) from ⟨Ak, Au, Ar, ck, cu, cr, rfl, Kd.V_below v1 b3, Kd.V_below v2 b3, Kd.V_below v3 b3⟩)
  have K1 := Aside0.mk (Kd.V_below v1 b3)
  have K2 := Aside0.mk (Kd.V_below v2 b3)
  have K3 := Aside0.mk (Kd.V_below v3 b3)
  unfold edV at HV hv ⊢
  obtain ⟨d0, d1, d2, d3, d4, d5, d6, d7, d8, d9⟩ := Box.cells (s := s) b1
  clear hv v1 v2 v3 hw1 b1 b2 b3 b4 hp1
  clear d0 d1 d2 d3 d4 d5 d6 d7 d8 d9
  have HOK := Aside0.mk R.ok
  have h0 := R.ok.low
  have h1 := R.ok.high
  have hts := R.text
  have hm := R.mark
  have HRK := Aside0.mk R
  have KC := Aside0.mk (Kd.C_below hC HB1.out)
  clear R hC
  obtain ⟨S, hS⟩ : ∃ z, z = downS s := ⟨_, rfl⟩
  rw [← hS]
  have HS := Aside0.mk hS
  clear hS
  go_enter Try.func30, Try.ntmps30
  go_upto_region 1 with (fail)
  rw [← HW1.out]
  obtain ⟨d0, d1, d2, d3, d4, d5, d6, d7, d8, d9⟩ := Box.cells (s := s) HE.out
  go_region
  go_upto_region 32 with (fail)
  go_wp2_with (first | (go_at_call 54; refine (rdown_calls (w1.drew) P0 s Al cl _ (HV.out.below (below_drew (Below.refl w1.heap.size w1))) HOK.out HRK.out.saved (Kd.C_drew KC.out)).mono ?_; rintro e w4 ⟨v4, rfl, hv4, hb⟩; have hbl := below_step (below_drew (Below.refl w1.heap.size w1)) hb; have hszr := (below_drew (Below.refl w1.heap.size w1)).size; have hv5 : EdV w4 (fun k => P0 k ∨ w1.heap.size ≤ k) S v4 := (by rw [HS.out]; exact hv4.mono (fun k hk => hk.elim .inl (fun h => .inr (Nat.le_trans hszr h)))); clear hszr; have HR4 := Aside0.mk (blk_below HR.out hbl); have HBL := Aside0.mk hbl; have hqr := blk_frozen HR4.out; obtain ⟨r0, r1, r2, r3, r4, r5, r6, r7, r8, r9⟩ := ten_cells HR4.out; obtain ⟨Ak4, Au4, Ar4, ck4, cu4, cr4, rfl, g1, g2, g3⟩ := hv5.opn; have G1 := Aside0.mk g1; have G2 := Aside0.mk g2; have G3 := Aside0.mk g3; clear hv4 hv5 hb hbl g1 g2 g3))
  obtain ⟨y1, y2, y3⟩ := put_edV (w := w) (s := S) (rb := w.heap.size + 1) G1.out G2.out G3.out (fun k hk => by have h1 := HP1.out k; have h2 := HSZ.out; rcases hk with hk | hk; exact (by have := (h1 hk).2; omega); exact (by have h3 : w1.heap.size ≤ k := hk; omega)) HR4.out (below_step HB1.out HBL.out) (by omega)
  refine bodyPost_ret (results_cell_row rfl _ _ (w.heap.size + 1) 27 _ (0, 0) _ rfl y1 hu27 rfl (by first | rfl | decide)) rfl ?_
  exact ⟨_, rfl, y2.mono (fun k hk => by have h1 := HP1.out k; have h2 := HSZ.out; rcases hk with hk | hk; exact .inl (h1 hk).1; exact .inr (by have h3 : w1.heap.size ≤ k := hk; omega)), y3⟩
set_option maxHeartbeats 16000000 in
set_option maxRecDepth 100000 in
theorem rchange_27 (w : World) (P : Nat → Prop) (s : St) (x : ByteArray) (Al : Option Addr) (cl : Nat) (v : Value) (hv : EdV w P s v) (R : RefOk s) (hx : x.size ≤ 1000000) (hC : Kd.C Kd.string w Al s.lines.length s.lines) :
    Calls Try.prog 30 #[v, .int .i64 27, .string x, .slice Al s.lines.length cl] w fun e w' => ∃ v', e = .returned v' ∧ EdV w' (fun k => P k ∨ w.heap.size ≤ k) (casedS s 27 (wordEndS s.text s.pos.toNat)) v' ∧ Below w.heap.size w w' := by
  have hvo := hv.old
  obtain ⟨P0, hP0⟩ : ∃ Q : Nat → Prop, Q = fun k => P k ∧ k < w.heap.size := ⟨_, rfl⟩
  rw [← hP0] at hvo
  have hp1 : ∀ k, P0 k → P k ∧ k < w.heap.size := by intro k hk; rw [hP0] at hk; exact hk
  clear hP0
  obtain ⟨Ak, Au, Ar, ck, cu, cr, rfl, v1, v2, v3⟩ := hvo
  have hu27 := Try.underlying27
  have hu23 := Try.underlying23
  obtain ⟨w1, hw1⟩ : ∃ z, z = (w.alloc (.cells #[.string s.text, .int .i64 s.pos, .int .i64 s.mark, .slice Ak s.kills.length ck, .slice Au s.undo.length cu, .slice Ar s.redo.length cr, .string s.keys, .int .i64 s.last, .int .i64 s.line, .string s.saved] 27)).alloc (.cells #[.string ⟨#[]⟩, .int .i64 0, .int .i64 0, .slice none 0 0, .slice none 0 0, .slice none 0 0, .string ⟨#[]⟩, .int .i64 0, .int .i64 0, .string ⟨#[]⟩] 27) := ⟨_, rfl⟩
  obtain ⟨b1, b2, b3, b4⟩ := box2 w #[.string s.text, .int .i64 s.pos, .int .i64 s.mark, .slice Ak s.kills.length ck, .slice Au s.undo.length cu, .slice Ar s.redo.length cr, .string s.keys, .int .i64 s.last, .int .i64 s.line, .string s.saved] #[.string ⟨#[]⟩, .int .i64 0, .int .i64 0, .slice none 0 0, .slice none 0 0, .slice none 0 0, .string ⟨#[]⟩, .int .i64 0, .int .i64 0, .string ⟨#[]⟩] 27 27
  rw [← hw1] at b1 b2 b3 b4
  have HE := Aside0.mk b1
  have HR := Aside0.mk b2
  have HB1 := Aside0.mk b3
  have HSZ := Aside0.mk b4
  have HP1 := Aside0.mk hp1
  have HW1 := Aside0.mk hw1
  have HV := Aside0.mk (show EdV w1 P0 s (edV s (.slice Ak s.kills.length ck) (.slice Au s.undo.length cu) (.slice Ar s.redo.length cr)) from ⟨Ak, Au, Ar, ck, cu, cr, rfl, Kd.V_below v1 b3, Kd.V_below v2 b3, Kd.V_below v3 b3⟩)
  have K1 := Aside0.mk (Kd.V_below v1 b3)
  have K2 := Aside0.mk (Kd.V_below v2 b3)
  have K3 := Aside0.mk (Kd.V_below v3 b3)
  unfold edV at HV hv ⊢
  obtain ⟨d0, d1, d2, d3, d4, d5, d6, d7, d8, d9⟩ := Box.cells (s := s) b1
  clear hv v1 v2 v3 hw1 b1 b2 b3 b4 hp1
  clear d0 d1 d2 d3 d4 d5 d6 d7 d8 d9
  have HOK := Aside0.mk R.ok
  have h0 := R.ok.low
  have h1 := R.ok.high
  have hts := R.text
  have hm := R.mark
  have HRK := Aside0.mk R
  have KC := Aside0.mk (Kd.C_below hC HB1.out)
  clear R hC
  obtain ⟨S, hS⟩ : ∃ z, z = casedS s 27 (wordEndS s.text s.pos.toNat) := ⟨_, rfl⟩
  rw [← hS]
  have HS := Aside0.mk hS
  clear hS
  go_enter Try.func30, Try.ntmps30
  go_upto_region 1 with (fail)
  rw [← HW1.out]
  obtain ⟨d0, d1, d2, d3, d4, d5, d6, d7, d8, d9⟩ := Box.cells (s := s) HE.out
  go_region
  go_upto_region 34 with (fail)
  go_wp2_with (first | (go_at_call 55; refine (rletters_27 (w1.drew) P0 s _ (HV.out.below (below_drew (Below.refl w1.heap.size w1))) HOK.out hm).mono ?_; rintro e w4 ⟨v4, rfl, hv4, hb⟩; have hbl := below_step (below_drew (Below.refl w1.heap.size w1)) hb; have hszr := (below_drew (Below.refl w1.heap.size w1)).size; have hv5 : EdV w4 (fun k => P0 k ∨ w1.heap.size ≤ k) S v4 := (by rw [HS.out]; exact hv4.mono (fun k hk => hk.elim .inl (fun h => .inr (Nat.le_trans hszr h)))); clear hszr; have HR4 := Aside0.mk (blk_below HR.out hbl); have HBL := Aside0.mk hbl; have hqr := blk_frozen HR4.out; obtain ⟨r0, r1, r2, r3, r4, r5, r6, r7, r8, r9⟩ := ten_cells HR4.out; obtain ⟨Ak4, Au4, Ar4, ck4, cu4, cr4, rfl, g1, g2, g3⟩ := hv5.opn; have G1 := Aside0.mk g1; have G2 := Aside0.mk g2; have G3 := Aside0.mk g3; clear hv4 hv5 hb hbl g1 g2 g3))
  obtain ⟨y1, y2, y3⟩ := put_edV (w := w) (s := S) (rb := w.heap.size + 1) G1.out G2.out G3.out (fun k hk => by have h1 := HP1.out k; have h2 := HSZ.out; rcases hk with hk | hk; exact (by have := (h1 hk).2; omega); exact (by have h3 : w1.heap.size ≤ k := hk; omega)) HR4.out (below_step HB1.out HBL.out) (by omega)
  refine bodyPost_ret (results_cell_row rfl _ _ (w.heap.size + 1) 27 _ (0, 0) _ rfl y1 hu27 rfl (by first | rfl | decide)) rfl ?_
  exact ⟨_, rfl, y2.mono (fun k hk => by have h1 := HP1.out k; have h2 := HSZ.out; rcases hk with hk | hk; exact .inl (h1 hk).1; exact .inr (by have h3 : w1.heap.size ≤ k := hk; omega)), y3⟩
set_option maxHeartbeats 16000000 in
set_option maxRecDepth 100000 in
theorem rchange_28 (w : World) (P : Nat → Prop) (s : St) (x : ByteArray) (Al : Option Addr) (cl : Nat) (v : Value) (hv : EdV w P s v) (R : RefOk s) (hx : x.size ≤ 1000000) (hC : Kd.C Kd.string w Al s.lines.length s.lines) :
    Calls Try.prog 30 #[v, .int .i64 28, .string x, .slice Al s.lines.length cl] w fun e w' => ∃ v', e = .returned v' ∧ EdV w' (fun k => P k ∨ w.heap.size ≤ k) (casedS s 28 (wordEndS s.text s.pos.toNat)) v' ∧ Below w.heap.size w w' := by
  have hvo := hv.old
  obtain ⟨P0, hP0⟩ : ∃ Q : Nat → Prop, Q = fun k => P k ∧ k < w.heap.size := ⟨_, rfl⟩
  rw [← hP0] at hvo
  have hp1 : ∀ k, P0 k → P k ∧ k < w.heap.size := by intro k hk; rw [hP0] at hk; exact hk
  clear hP0
  obtain ⟨Ak, Au, Ar, ck, cu, cr, rfl, v1, v2, v3⟩ := hvo
  have hu27 := Try.underlying27
  have hu23 := Try.underlying23
  obtain ⟨w1, hw1⟩ : ∃ z, z = (w.alloc (.cells #[.string s.text, .int .i64 s.pos, .int .i64 s.mark, .slice Ak s.kills.length ck, .slice Au s.undo.length cu, .slice Ar s.redo.length cr, .string s.keys, .int .i64 s.last, .int .i64 s.line, .string s.saved] 27)).alloc (.cells #[.string ⟨#[]⟩, .int .i64 0, .int .i64 0, .slice none 0 0, .slice none 0 0, .slice none 0 0, .string ⟨#[]⟩, .int .i64 0, .int .i64 0, .string ⟨#[]⟩] 27) := ⟨_, rfl⟩
  obtain ⟨b1, b2, b3, b4⟩ := box2 w #[.string s.text, .int .i64 s.pos, .int .i64 s.mark, .slice Ak s.kills.length ck, .slice Au s.undo.length cu, .slice Ar s.redo.length cr, .string s.keys, .int .i64 s.last, .int .i64 s.line, .string s.saved] #[.string ⟨#[]⟩, .int .i64 0, .int .i64 0, .slice none 0 0, .slice none 0 0, .slice none 0 0, .string ⟨#[]⟩, .int .i64 0, .int .i64 0, .string ⟨#[]⟩] 27 27
  rw [← hw1] at b1 b2 b3 b4
  have HE := Aside0.mk b1
  have HR := Aside0.mk b2
  have HB1 := Aside0.mk b3
  have HSZ := Aside0.mk b4
  have HP1 := Aside0.mk hp1
  have HW1 := Aside0.mk hw1
  have HV := Aside0.mk (show EdV w1 P0 s (edV s (.slice Ak s.kills.length ck) (.slice Au s.undo.length cu) (.slice Ar s.redo.length cr)) from ⟨Ak, Au, Ar, ck, cu, cr, rfl, Kd.V_below v1 b3, Kd.V_below v2 b3, Kd.V_below v3 b3⟩)
  have K1 := Aside0.mk (Kd.V_below v1 b3)
  have K2 := Aside0.mk (Kd.V_below v2 b3)
  have K3 := Aside0.mk (Kd.V_below v3 b3)
  unfold edV at HV hv ⊢
  obtain ⟨d0, d1, d2, d3, d4, d5, d6, d7, d8, d9⟩ := Box.cells (s := s) b1
  clear hv v1 v2 v3 hw1 b1 b2 b3 b4 hp1
  clear d0 d1 d2 d3 d4 d5 d6 d7 d8 d9
  have HOK := Aside0.mk R.ok
  have h0 := R.ok.low
  have h1 := R.ok.high
  have hts := R.text
  have hm := R.mark
  have HRK := Aside0.mk R
  have KC := Aside0.mk (Kd.C_below hC HB1.out)
  clear R hC
  obtain ⟨S, hS⟩ : ∃ z, z = casedS s 28 (wordEndS s.text s.pos.toNat) := ⟨_, rfl⟩
  rw [← hS]
  have HS := Aside0.mk hS
  clear hS
  go_enter Try.func30, Try.ntmps30
  go_upto_region 1 with (fail)
  rw [← HW1.out]
  obtain ⟨d0, d1, d2, d3, d4, d5, d6, d7, d8, d9⟩ := Box.cells (s := s) HE.out
  go_region
  go_upto_region 36 with (fail)
  go_wp2_with (first | (go_at_call 55; refine (rletters_28 (w1.drew) P0 s _ (HV.out.below (below_drew (Below.refl w1.heap.size w1))) HOK.out hm).mono ?_; rintro e w4 ⟨v4, rfl, hv4, hb⟩; have hbl := below_step (below_drew (Below.refl w1.heap.size w1)) hb; have hszr := (below_drew (Below.refl w1.heap.size w1)).size; have hv5 : EdV w4 (fun k => P0 k ∨ w1.heap.size ≤ k) S v4 := (by rw [HS.out]; exact hv4.mono (fun k hk => hk.elim .inl (fun h => .inr (Nat.le_trans hszr h)))); clear hszr; have HR4 := Aside0.mk (blk_below HR.out hbl); have HBL := Aside0.mk hbl; have hqr := blk_frozen HR4.out; obtain ⟨r0, r1, r2, r3, r4, r5, r6, r7, r8, r9⟩ := ten_cells HR4.out; obtain ⟨Ak4, Au4, Ar4, ck4, cu4, cr4, rfl, g1, g2, g3⟩ := hv5.opn; have G1 := Aside0.mk g1; have G2 := Aside0.mk g2; have G3 := Aside0.mk g3; clear hv4 hv5 hb hbl g1 g2 g3))
  obtain ⟨y1, y2, y3⟩ := put_edV (w := w) (s := S) (rb := w.heap.size + 1) G1.out G2.out G3.out (fun k hk => by have h1 := HP1.out k; have h2 := HSZ.out; rcases hk with hk | hk; exact (by have := (h1 hk).2; omega); exact (by have h3 : w1.heap.size ≤ k := hk; omega)) HR4.out (below_step HB1.out HBL.out) (by omega)
  refine bodyPost_ret (results_cell_row rfl _ _ (w.heap.size + 1) 27 _ (0, 0) _ rfl y1 hu27 rfl (by first | rfl | decide)) rfl ?_
  exact ⟨_, rfl, y2.mono (fun k hk => by have h1 := HP1.out k; have h2 := HSZ.out; rcases hk with hk | hk; exact .inl (h1 hk).1; exact .inr (by have h3 : w1.heap.size ≤ k := hk; omega)), y3⟩
set_option maxHeartbeats 16000000 in
set_option maxRecDepth 100000 in
theorem rchange_none (w : World) (P : Nat → Prop) (s : St) (a : Int) (x : ByteArray) (Al : Option Addr) (cl : Nat) (v : Value) (hv : EdV w P s v) (R : RefOk s) (hx : x.size ≤ 1000000) (hC : Kd.C Kd.string w Al s.lines.length s.lines) (b1 : (a == 1) = false) (b9 : (a == 9) = false) (b10 : (a == 10) = false) (b23 : (a == 23) = false) (b11 : (a == 11) = false) (b12 : (a == 12) = false) (b13 : (a == 13) = false) (b14 : (a == 14) = false) (b15 : (a == 15) = false) (b16 : (a == 16) = false) (b17 : (a == 17) = false) (b18 : (a == 18) = false) (b19 : (a == 19) = false) (b20 : (a == 20) = false) (b21 : (a == 21) = false) (b27 : (a == 27) = false) (b28 : (a == 28) = false) :
    Calls Try.prog 30 #[v, .int .i64 a, .string x, .slice Al s.lines.length cl] w fun e w' => ∃ v', e = .returned v' ∧ EdV w' (fun k => P k ∨ w.heap.size ≤ k) (s) v' ∧ Below w.heap.size w w' := by
  have hvo := hv.old
  obtain ⟨P0, hP0⟩ : ∃ Q : Nat → Prop, Q = fun k => P k ∧ k < w.heap.size := ⟨_, rfl⟩
  rw [← hP0] at hvo
  have hp1 : ∀ k, P0 k → P k ∧ k < w.heap.size := by intro k hk; rw [hP0] at hk; exact hk
  clear hP0
  obtain ⟨Ak, Au, Ar, ck, cu, cr, rfl, v1, v2, v3⟩ := hvo
  have hu27 := Try.underlying27
  have hu23 := Try.underlying23
  obtain ⟨w1, hw1⟩ : ∃ z, z = (w.alloc (.cells #[.string s.text, .int .i64 s.pos, .int .i64 s.mark, .slice Ak s.kills.length ck, .slice Au s.undo.length cu, .slice Ar s.redo.length cr, .string s.keys, .int .i64 s.last, .int .i64 s.line, .string s.saved] 27)).alloc (.cells #[.string ⟨#[]⟩, .int .i64 0, .int .i64 0, .slice none 0 0, .slice none 0 0, .slice none 0 0, .string ⟨#[]⟩, .int .i64 0, .int .i64 0, .string ⟨#[]⟩] 27) := ⟨_, rfl⟩
  obtain ⟨b1, b2, b3, b4⟩ := box2 w #[.string s.text, .int .i64 s.pos, .int .i64 s.mark, .slice Ak s.kills.length ck, .slice Au s.undo.length cu, .slice Ar s.redo.length cr, .string s.keys, .int .i64 s.last, .int .i64 s.line, .string s.saved] #[.string ⟨#[]⟩, .int .i64 0, .int .i64 0, .slice none 0 0, .slice none 0 0, .slice none 0 0, .string ⟨#[]⟩, .int .i64 0, .int .i64 0, .string ⟨#[]⟩] 27 27
  rw [← hw1] at b1 b2 b3 b4
  have HE := Aside0.mk b1
  have HR := Aside0.mk b2
  have HB1 := Aside0.mk b3
  have HSZ := Aside0.mk b4
  have HP1 := Aside0.mk hp1
  have HW1 := Aside0.mk hw1
  have HV := Aside0.mk (show EdV w1 P0 s (edV s (.slice Ak s.kills.length ck) (.slice Au s.undo.length cu) (.slice Ar s.redo.length cr)) from ⟨Ak, Au, Ar, ck, cu, cr, rfl, Kd.V_below v1 b3, Kd.V_below v2 b3, Kd.V_below v3 b3⟩)
  have K1 := Aside0.mk (Kd.V_below v1 b3)
  have K2 := Aside0.mk (Kd.V_below v2 b3)
  have K3 := Aside0.mk (Kd.V_below v3 b3)
  unfold edV at HV hv ⊢
  obtain ⟨d0, d1, d2, d3, d4, d5, d6, d7, d8, d9⟩ := Box.cells (s := s) b1
  clear hv v1 v2 v3 hw1 b1 b2 b3 b4 hp1
  clear d0 d1 d2 d3 d4 d5 d6 d7 d8 d9
  have HOK := Aside0.mk R.ok
  have h0 := R.ok.low
  have h1 := R.ok.high
  have hts := R.text
  have hm := R.mark
  have HRK := Aside0.mk R
  have KC := Aside0.mk (Kd.C_below hC HB1.out)
  clear R hC
  go_enter Try.func30, Try.ntmps30
  go_upto_region 1 with (fail)
  rw [← HW1.out]
  obtain ⟨d0, d1, d2, d3, d4, d5, d6, d7, d8, d9⟩ := Box.cells (s := s) HE.out
  go_region
  go_upto_region 37 with (fail)
  obtain ⟨W, hW⟩ : ∃ z, z = w1.drew := ⟨_, rfl⟩
  have hbl : Below w1.heap.size w1 W := by rw [hW]; exact (below_drew (Below.refl w1.heap.size w1))
  have HRX := Aside0.mk (blk_below HR.out hbl)
  have HWW := Aside0.mk hW
  have k1 := Aside0.mk (Kd.V_below K1.out hbl)
  have k2 := Aside0.mk (Kd.V_below K2.out hbl)
  have k3 := Aside0.mk (Kd.V_below K3.out hbl)
  have kb := Aside0.mk (below_step HB1.out hbl)
  have HEX := Aside0.mk (blk_below HE.out hbl)
  clear d0 d1 d2 d3 d4 d5 d6 d7 d8 d9 hbl hW
  rw [← HWW.out]
  obtain ⟨d0, d1, d2, d3, d4, d5, d6, d7, d8, d9⟩ := Box.cells (s := s) HEX.out
  have hqr := blk_frozen HRX.out
  obtain ⟨r0, r1, r2, r3, r4, r5, r6, r7, r8, r9⟩ := ten_cells HRX.out
  go_wp2_with (fail)
  obtain ⟨y1, y2, y3⟩ := put_edV (w := w) (W := W) (s := s) (rb := w.heap.size + 1) k1.out k2.out k3.out (fun k hk => by have := (HP1.out k hk).2; omega) HRX.out kb.out (by omega)
  refine bodyPost_ret (results_cell_row rfl _ _ (w.heap.size + 1) 27 _ (0, 0) _ rfl y1 hu27 rfl (by first | rfl | decide)) rfl ?_
  exact ⟨_, rfl, y2.mono (fun k hk => .inl (HP1.out k hk).1), y3⟩
theorem rchange_calls (w : World) (P : Nat → Prop) (s : St) (a : Int) (x : ByteArray) (Al : Option Addr) (cl : Nat) (v : Value) (hv : EdV w P s v) (R : RefOk s) (hx : x.size ≤ 1000000) (hC : Kd.C Kd.string w Al s.lines.length s.lines) :
    Calls Try.prog 30 #[v, .int .i64 a, .string x, .slice Al s.lines.length cl] w fun e w' => ∃ v', e = .returned v' ∧ EdV w' (fun k => P k ∨ w.heap.size ≤ k) (changeS s a x) v' ∧ Below w.heap.size w w' := by
  by_cases a1 : a = 1
  · subst a1
    have h := rchange_1 w P s x Al cl v hv R hx hC
    unfold changeS
    rw [if_pos rfl]
    exact h
  by_cases a9 : a = 9
  · subst a9
    have h := rchange_9 w P s x Al cl v hv R hx hC
    unfold changeS
    rw [if_neg (by decide)]
    rw [if_pos rfl]
    exact h
  by_cases a10 : a = 10
  · subst a10
    have h := rchange_10 w P s x Al cl v hv R hx hC
    unfold changeS
    rw [if_neg (by decide)]
    rw [if_neg (by decide)]
    rw [if_pos rfl]
    exact h
  by_cases a23 : a = 23
  · subst a23
    have h := rchange_23 w P s x Al cl v hv R hx hC
    unfold changeS
    rw [if_neg (by decide)]
    rw [if_neg (by decide)]
    rw [if_neg (by decide)]
    rw [if_pos rfl]
    exact h
  by_cases a11 : a = 11
  · subst a11
    have h := rchange_11 w P s x Al cl v hv R hx hC
    unfold changeS
    rw [if_neg (by decide)]
    rw [if_neg (by decide)]
    rw [if_neg (by decide)]
    rw [if_neg (by decide)]
    rw [if_pos rfl]
    exact h
  by_cases a12 : a = 12
  · subst a12
    have h := rchange_12 w P s x Al cl v hv R hx hC
    unfold changeS
    rw [if_neg (by decide)]
    rw [if_neg (by decide)]
    rw [if_neg (by decide)]
    rw [if_neg (by decide)]
    rw [if_neg (by decide)]
    rw [if_pos rfl]
    exact h
  by_cases a13 : a = 13
  · subst a13
    have h := rchange_13 w P s x Al cl v hv R hx hC
    unfold changeS
    rw [if_neg (by decide)]
    rw [if_neg (by decide)]
    rw [if_neg (by decide)]
    rw [if_neg (by decide)]
    rw [if_neg (by decide)]
    rw [if_neg (by decide)]
    rw [if_pos rfl]
    exact h
  by_cases a14 : a = 14
  · subst a14
    have h := rchange_14 w P s x Al cl v hv R hx hC
    unfold changeS
    rw [if_neg (by decide)]
    rw [if_neg (by decide)]
    rw [if_neg (by decide)]
    rw [if_neg (by decide)]
    rw [if_neg (by decide)]
    rw [if_neg (by decide)]
    rw [if_neg (by decide)]
    rw [if_pos rfl]
    exact h
  by_cases a15 : a = 15
  · subst a15
    have h := rchange_15 w P s x Al cl v hv R hx hC
    unfold changeS
    rw [if_neg (by decide)]
    rw [if_neg (by decide)]
    rw [if_neg (by decide)]
    rw [if_neg (by decide)]
    rw [if_neg (by decide)]
    rw [if_neg (by decide)]
    rw [if_neg (by decide)]
    rw [if_neg (by decide)]
    rw [if_pos rfl]
    exact h
  by_cases a16 : a = 16
  · subst a16
    have h := rchange_16 w P s x Al cl v hv R hx hC
    unfold changeS
    rw [if_neg (by decide)]
    rw [if_neg (by decide)]
    rw [if_neg (by decide)]
    rw [if_neg (by decide)]
    rw [if_neg (by decide)]
    rw [if_neg (by decide)]
    rw [if_neg (by decide)]
    rw [if_neg (by decide)]
    rw [if_neg (by decide)]
    rw [if_pos rfl]
    exact h
  by_cases a17 : a = 17
  · subst a17
    have h := rchange_17 w P s x Al cl v hv R hx hC
    unfold changeS
    rw [if_neg (by decide)]
    rw [if_neg (by decide)]
    rw [if_neg (by decide)]
    rw [if_neg (by decide)]
    rw [if_neg (by decide)]
    rw [if_neg (by decide)]
    rw [if_neg (by decide)]
    rw [if_neg (by decide)]
    rw [if_neg (by decide)]
    rw [if_neg (by decide)]
    rw [if_pos rfl]
    exact h
  by_cases a18 : a = 18
  · subst a18
    have h := rchange_18 w P s x Al cl v hv R hx hC
    unfold changeS
    rw [if_neg (by decide)]
    rw [if_neg (by decide)]
    rw [if_neg (by decide)]
    rw [if_neg (by decide)]
    rw [if_neg (by decide)]
    rw [if_neg (by decide)]
    rw [if_neg (by decide)]
    rw [if_neg (by decide)]
    rw [if_neg (by decide)]
    rw [if_neg (by decide)]
    rw [if_neg (by decide)]
    rw [if_pos rfl]
    exact h
  by_cases a19 : a = 19
  · subst a19
    have h := rchange_19 w P s x Al cl v hv R hx hC
    unfold changeS
    rw [if_neg (by decide)]
    rw [if_neg (by decide)]
    rw [if_neg (by decide)]
    rw [if_neg (by decide)]
    rw [if_neg (by decide)]
    rw [if_neg (by decide)]
    rw [if_neg (by decide)]
    rw [if_neg (by decide)]
    rw [if_neg (by decide)]
    rw [if_neg (by decide)]
    rw [if_neg (by decide)]
    rw [if_neg (by decide)]
    rw [if_pos rfl]
    exact h
  by_cases a20 : a = 20
  · subst a20
    have h := rchange_20 w P s x Al cl v hv R hx hC
    unfold changeS
    rw [if_neg (by decide)]
    rw [if_neg (by decide)]
    rw [if_neg (by decide)]
    rw [if_neg (by decide)]
    rw [if_neg (by decide)]
    rw [if_neg (by decide)]
    rw [if_neg (by decide)]
    rw [if_neg (by decide)]
    rw [if_neg (by decide)]
    rw [if_neg (by decide)]
    rw [if_neg (by decide)]
    rw [if_neg (by decide)]
    rw [if_neg (by decide)]
    rw [if_pos rfl]
    exact h
  by_cases a21 : a = 21
  · subst a21
    have h := rchange_21 w P s x Al cl v hv R hx hC
    unfold changeS
    rw [if_neg (by decide)]
    rw [if_neg (by decide)]
    rw [if_neg (by decide)]
    rw [if_neg (by decide)]
    rw [if_neg (by decide)]
    rw [if_neg (by decide)]
    rw [if_neg (by decide)]
    rw [if_neg (by decide)]
    rw [if_neg (by decide)]
    rw [if_neg (by decide)]
    rw [if_neg (by decide)]
    rw [if_neg (by decide)]
    rw [if_neg (by decide)]
    rw [if_neg (by decide)]
    rw [if_pos rfl]
    exact h
  by_cases a27 : a = 27
  · subst a27
    have h := rchange_27 w P s x Al cl v hv R hx hC
    unfold changeS
    rw [if_neg (by decide)]
    rw [if_neg (by decide)]
    rw [if_neg (by decide)]
    rw [if_neg (by decide)]
    rw [if_neg (by decide)]
    rw [if_neg (by decide)]
    rw [if_neg (by decide)]
    rw [if_neg (by decide)]
    rw [if_neg (by decide)]
    rw [if_neg (by decide)]
    rw [if_neg (by decide)]
    rw [if_neg (by decide)]
    rw [if_neg (by decide)]
    rw [if_neg (by decide)]
    rw [if_neg (by decide)]
    rw [if_pos rfl]
    exact h
  by_cases a28 : a = 28
  · subst a28
    have h := rchange_28 w P s x Al cl v hv R hx hC
    unfold changeS
    rw [if_neg (by decide)]
    rw [if_neg (by decide)]
    rw [if_neg (by decide)]
    rw [if_neg (by decide)]
    rw [if_neg (by decide)]
    rw [if_neg (by decide)]
    rw [if_neg (by decide)]
    rw [if_neg (by decide)]
    rw [if_neg (by decide)]
    rw [if_neg (by decide)]
    rw [if_neg (by decide)]
    rw [if_neg (by decide)]
    rw [if_neg (by decide)]
    rw [if_neg (by decide)]
    rw [if_neg (by decide)]
    rw [if_neg (by decide)]
    rw [if_pos rfl]
    exact h
  have h := rchange_none w P s a x Al cl v hv R hx hC (beq_eq_false_iff_ne.mpr a1) (beq_eq_false_iff_ne.mpr a9) (beq_eq_false_iff_ne.mpr a10) (beq_eq_false_iff_ne.mpr a23) (beq_eq_false_iff_ne.mpr a11) (beq_eq_false_iff_ne.mpr a12) (beq_eq_false_iff_ne.mpr a13) (beq_eq_false_iff_ne.mpr a14) (beq_eq_false_iff_ne.mpr a15) (beq_eq_false_iff_ne.mpr a16) (beq_eq_false_iff_ne.mpr a17) (beq_eq_false_iff_ne.mpr a18) (beq_eq_false_iff_ne.mpr a19) (beq_eq_false_iff_ne.mpr a20) (beq_eq_false_iff_ne.mpr a21) (beq_eq_false_iff_ne.mpr a27) (beq_eq_false_iff_ne.mpr a28)
  unfold changeS
  rw [if_neg a1, if_neg a9, if_neg a10, if_neg a23, if_neg a11, if_neg a12, if_neg a13, if_neg a14, if_neg a15, if_neg a16, if_neg a17, if_neg a18, if_neg a19, if_neg a20, if_neg a21, if_neg a27, if_neg a28]
  exact h
end Go.Proofs.Ytlbbjdggebgabaa.P
end

section
/- Plain facts: an action makes a good editor of a good one. -/
namespace Go.Proofs.Ytlbbjdggebgabaa.P
open Go.RowKit Go.Proofs.YtlbbjdggebgabaaW.PrintWords Go.Proofs.YtlbbjdggebgabaaW.PrintLast Go.Proofs.YtlbbjdggebgabaaW.PrintMore
set_option linter.unusedVariables false
set_option linter.unusedSimpArgs false

theorem any_push {p : S23 → Bool} {l : List S23} {x : S23} (h : l.any p = false) (hx : p x = false) : (pushS l x).any p = false := by
  unfold pushS
  have h2 : (l ++ [x]).any p = false := by rw [List.any_append, h]; simp [hx]
  split
  · rw [List.any_eq_false] at h2 ⊢
    exact fun y hy => h2 y (List.mem_of_mem_drop hy)
  · exact h2
theorem len_push {l : List S23} {x : S23} (h : l.length ≤ 64) : (pushS l x).length ≤ 64 := by
  unfold pushS
  split
  · simp; omega
  · omega
theorem now_long {s : St} (h : Good s) : decide (((⟨s.text, s.pos⟩ : S23).f0.size : Int) > 4096) = false := by have := h.text; exact decide_eq_false (by show ¬ ((s.text.size : Int) > 4096); omega)
theorem now_out {s : St} (h : Good s) : (decide ((⟨s.text, s.pos⟩ : S23).f1 < 0) || decide ((⟨s.text, s.pos⟩ : S23).f1 > ((⟨s.text, s.pos⟩ : S23).f0.size : Int))) = false := by
  have h1 := h.low
  have h2 := h.high
  show (decide (s.pos < 0) || decide (s.pos > (s.text.size : Int))) = false
  rw [decide_eq_false (by omega), decide_eq_false (by omega)]
  rfl
theorem clamp_good {s : St} (h1 : s.text.size ≤ 4096) (h2 : longB s.undo = false) (h3 : longB s.redo = false) (h4 : s.saved.size ≤ 4096) (h5 : s.keys.size ≤ 16) (h6 : killL s.kills = false) (h7 : 0 ≤ s.pos) (h8 : s.pos ≤ s.text.size) (h9 : outB s.undo = false) (h10 : outB s.redo = false)
    (h11 : 0 ≤ s.mark) (h13 : 0 ≤ s.last) (h14 : s.last ≤ 28) (h15 : 0 ≤ s.line) (h16 : s.line ≤ 128) (h17 : s.kills.length ≤ 16) (h18 : s.undo.length ≤ 64) (h19 : s.redo.length ≤ 64) : Good (clampS s) := by
  refine ⟨h1, h2, h3, h4, h5, h6, h7, h8, h9, h10, ?_, ?_, h13, h14, h15, h16, h17, h18, h19⟩
  · unfold clampS; dsimp only; split <;> omega
  · unfold clampS; dsimp only; split <;> omega
theorem set_good {s : St} (h : Good s) (a : Int) (t : ByteArray) (p : Int) (h0 : 0 ≤ p) (h1 : p ≤ t.size) : Good (setS s a t p).1 := by
  unfold setS
  split
  · exact h
  · rename_i g1
    split
    · rename_i g2
      have e : t = s.text := by
        rw [ByteArray.toList_eq, ByteArray.toList_eq] at g2
        exact ByteArray.ext (Array.ext' g2)
      subst e
      exact ⟨h.text, h.undoL, h.redoL, h.saved, h.keys, h.killsL, h0, h1, h.undoO, h.redoO, h.mark0, h.mark1, h.last0, h.last1, h.line0, h.line1, h.kills, h.undo, h.redo⟩
    · refine clamp_good (by show t.size ≤ 4096; omega) ?_ rfl h.saved h.keys h.killsL h0 h1 ?_ rfl h.mark0 h.last0 h.last1 h.line0 h.line1 h.kills ?_ (Nat.zero_le _)
      · dsimp only
        split
        · exact h.undoL
        · exact any_push h.undoL (now_long h)
      · dsimp only
        split
        · exact h.undoO
        · exact any_push h.undoO (now_out h)
      · dsimp only
        split
        · exact h.undo
        · exact len_push h.undo
theorem Good.withLast {s : St} (h : Good s) {a : Int} (h0 : 0 ≤ a) (h1 : a ≤ 28) : Good { s with last := a } :=
  ⟨h.text, h.undoL, h.redoL, h.saved, h.keys, h.killsL, h.low, h.high, h.undoO, h.redoO, h.mark0, h.mark1, h0, h1, h.line0, h.line1, h.kills, h.undo, h.redo⟩
theorem Good.withKills {s : St} (h : Good s) {l : List ByteArray} (h0 : killL l = false) (h1 : l.length ≤ 16) : Good { s with kills := l } :=
  ⟨h.text, h.undoL, h.redoL, h.saved, h.keys, h0, h.low, h.high, h.undoO, h.redoO, h.mark0, h.mark1, h.last0, h.last1, h.line0, h.line1, h1, h.undo, h.redo⟩
theorem Good.withPos {s : St} (h : Good s) {p m : Int} (h0 : 0 ≤ p) (h1 : p ≤ s.text.size) (h2 : 0 ≤ m) (h3 : m ≤ s.text.size) : Good { s with pos := p, mark := m } :=
  ⟨h.text, h.undoL, h.redoL, h.saved, h.keys, h.killsL, h0, h1, h.undoO, h.redoO, h2, h3, h.last0, h.last1, h.line0, h.line1, h.kills, h.undo, h.redo⟩
theorem killL_of {l : List ByteArray} (h : ∀ x ∈ l, x.size ≤ 4096) : killL l = false := by
  unfold killL
  rw [List.any_eq_false]
  intro x hx
  have := h x hx
  simp only [decide_eq_true_eq]
  omega
theorem insert_good {s : St} (h : Good s) (a : Int) (x : ByteArray) : Good (insertS s a x) := by
  have h1 := h.low
  have h2 := h.high
  unfold insertS spliced
  refine set_good h a _ _ (by omega) ?_
  rw [ByteArray.size_append, ByteArray.size_append, ByteArray.size_extract, ByteArray.size_extract]
  omega
theorem remove_good {s : St} (h : Good s) (a i j : Int) (h0 : 0 ≤ i) (h1 : j ≤ s.text.size) : Good (removeS s a i j) := by
  unfold removeS
  split
  · refine set_good h a _ _ h0 ?_
    rw [ByteArray.size_append, ByteArray.size_extract, ByteArray.size_extract]
    omega
  · exact h
theorem kill_good {s : St} (h : Good s) (a i j : Int) (h0 : 0 ≤ i) (h1 : j ≤ s.text.size) : Good (killS s a i j) := by
  unfold killS
  split
  · have hx : (s.text.extract i.toNat j.toNat).size ≤ 4096 := by have := h.text; rw [ByteArray.size_extract]; omega
    have hm := killL_mem h.killsL
    refine (remove_good h a i j h0 h1).withKills (killL_of ?_) ?_
    · unfold killedS
      split
      · rename_i hj
        unfold joins at hj
        simp only [Bool.and_eq_true, decide_eq_true_eq] at hj
        obtain ⟨⟨_, hne⟩, hsz⟩ := hj
        intro y hy
        rcases List.mem_append.mp hy with hy | hy
        · exact hm y (List.dropLast_subset _ hy)
        · rw [List.mem_singleton] at hy
          rw [hy]
          split <;> (rw [ByteArray.size_append]; omega)
      · intro y hy
        unfold pushK at hy
        have hy2 : y ∈ s.kills ++ [s.text.extract i.toNat j.toNat] := by
          split at hy
          · exact List.mem_of_mem_drop hy
          · exact hy
        rcases List.mem_append.mp hy2 with hy | hy
        · exact hm y hy
        · rw [List.mem_singleton] at hy
          rw [hy]
          exact hx
    · have hk := h.kills
      unfold killedS
      split
      · rename_i hj
        unfold joins at hj
        simp only [Bool.and_eq_true, Bool.not_eq_true', List.isEmpty_eq_false_iff] at hj
        have hne := List.length_pos_iff.mpr hj.1.2
        rw [List.length_append, List.length_dropLast, List.length_singleton]
        omega
      · unfold pushK
        split
        · simp; omega
        · simp at *; omega
  · exact h
theorem lastOf_size {l : List ByteArray} (h : ∀ x ∈ l, x.size ≤ 4096) : (lastOf l).size ≤ 4096 := by
  rcases List.eq_nil_or_concat l with rfl | ⟨a, b, rfl⟩
  · decide
  · exact h _ (last_mem (by simp))
theorem rotate_good {s : St} (h : Good s) : Good (rotateS s) := by
  have h1 := h.low
  have h2 := h.high
  have hk := h.kills
  have hm := killL_mem h.killsL
  unfold rotateS
  split
  · rename_i hr
    have hset : Good (rotSet s).1 := by
      unfold rotSet
      have hf : 0 ≤ rotFrom s ∧ rotFrom s ≤ s.pos := by
        unfold rotates at hr
        simp only [Bool.and_eq_true, decide_eq_true_eq] at hr
        refine ⟨hr.1.2, ?_⟩
        unfold rotFrom
        omega
      refine set_good h _ _ _ (by omega) ?_
      rw [ByteArray.size_append, ByteArray.size_append, ByteArray.size_extract, ByteArray.size_extract]
      omega
    split
    · refine hset.withKills (killL_of ?_) ?_
      · intro y hy
        rcases List.mem_append.mp hy with hy | hy
        · rw [List.mem_singleton] at hy
          rw [hy]
          exact lastOf_size hm
        · exact hm y (List.mem_of_mem_take hy)
      · unfold rotates at hr
        simp only [Bool.and_eq_true, decide_eq_true_eq] at hr
        rw [List.length_append, List.length_take, List.length_singleton]
        omega
    · exact hset
  · exact h
theorem last_memS {l : List S23} (h : l ≠ []) : lastS l ∈ l := by
  rcases List.eq_nil_or_concat l with rfl | ⟨a, b, rfl⟩
  · exact absurd rfl h
  · unfold lastS; simp
theorem any_mem {p : S23 → Bool} {l : List S23} (h : l.any p = false) : ∀ x ∈ l, p x = false := fun x hx => by
  have := List.any_eq_false.mp h x hx
  simpa using this
theorem any_dropLast {p : S23 → Bool} {l : List S23} (h : l.any p = false) : l.dropLast.any p = false := by
  rw [List.any_eq_false] at h ⊢
  exact fun y hy => h y (List.dropLast_subset _ hy)
theorem back_facts {l : List S23} (hl : longB l = false) (ho : outB l = false) (hne : l ≠ []) : (lastS l).f0.size ≤ 4096 ∧ 0 ≤ (lastS l).f1 ∧ (lastS l).f1 ≤ (lastS l).f0.size := by
  have h1 := any_mem hl _ (last_memS hne)
  have h2 := any_mem ho _ (last_memS hne)
  simp only [decide_eq_false_iff_not, Bool.or_eq_false_iff] at h1 h2
  omega
theorem undo_good {s : St} (h : Good s) : Good (undoS s) := by
  unfold undoS
  split
  · exact h
  · rename_i hne
    obtain ⟨b1, b2, b3⟩ := back_facts h.undoL h.undoO hne
    refine clamp_good (s := { s with text := (lastS s.undo).f0, pos := (lastS s.undo).f1, undo := s.undo.dropLast, redo := pushS s.redo ⟨s.text, s.pos⟩ }) b1 (any_dropLast h.undoL) (any_push h.redoL (now_long h)) h.saved h.keys h.killsL b2 b3 (any_dropLast h.undoO) (any_push h.redoO (now_out h)) h.mark0 h.last0 h.last1 h.line0 h.line1 h.kills ?_ (len_push h.redo)
    have := h.undo
    show s.undo.dropLast.length ≤ 64
    rw [List.length_dropLast]
    omega
theorem redo_good {s : St} (h : Good s) : Good (redoS s) := by
  unfold redoS
  split
  · exact h
  · rename_i hne
    obtain ⟨b1, b2, b3⟩ := back_facts h.redoL h.redoO hne
    refine clamp_good (s := { s with text := (lastS s.redo).f0, pos := (lastS s.redo).f1, redo := s.redo.dropLast, undo := pushS s.undo ⟨s.text, s.pos⟩ }) b1 (any_push h.undoL (now_long h)) (any_dropLast h.redoL) h.saved h.keys h.killsL b2 b3 (any_push h.undoO (now_out h)) (any_dropLast h.redoO) h.mark0 h.last0 h.last1 h.line0 h.line1 h.kills (len_push h.undo) ?_
    have := h.redo
    show s.redo.dropLast.length ≤ 64
    rw [List.length_dropLast]
    omega
theorem swap_size (xs : List Int) (i j : Nat) : (strOfNums (swapAt xs i j)).size = xs.length := by rw [strOfNums_size]; unfold swapAt; rw [List.length_set, List.length_set]
theorem trans_good {s : St} (h : Good s) : Good (transS s) := by
  have h1 := h.low
  have h2 := h.high
  unfold transS
  split
  · exact h
  · split
    · exact set_good h _ _ _ h1 (by rw [swap_size, nums_length]; exact h2)
    · exact set_good h _ _ _ (by omega) (by rw [swap_size, nums_length]; omega)
theorem cased_good {s : St} (h : Good s) (a : Int) (n : Nat) (hn : n ≤ s.text.size) : Good (casedS s a n) := by
  unfold casedS
  exact set_good h _ _ _ (by omega) (by rw [strOfNums_size, caseFrom_length, nums_length]; omega)
theorem line_good {s : St} (h : Good s) (k : Int) (h0 : 0 ≤ k) (h1 : k ≤ 128) : Good (lineS s k) := by
  unfold lineS
  split
  · exact h
  · rename_i g
    refine clamp_good (s := { s with text := lineText s k, pos := ((lineText s k).size : Int), undo := [], redo := [], line := k, saved := if k = 0 then ⟨#[]⟩ else if s.line = 0 then s.text else s.saved }) (by show (lineText s k).size ≤ 4096; omega) rfl rfl ?_ h.keys h.killsL (by show (0 : Int) ≤ ((lineText s k).size : Int); omega) (Int.le_refl _) rfl rfl h.mark0 h.last0 h.last1 h0 h1 h.kills (Nat.zero_le _) (Nat.zero_le _)
    dsimp only
    split
    · decide
    · split
      · exact h.text
      · exact h.saved
theorem change_good {s : St} (h : Good s) (a : Int) (x : ByteArray) : Good (changeS s a x) := by
  have h1 := h.low
  have h2 := h.high
  have h3 := h.line0
  have h4 := h.line1
  have we : wordEndS s.text s.pos.toNat ≤ s.text.size := wordEndS_le _ _ (by omega)
  have ws : wordStartS s.text s.pos.toNat ≤ s.pos.toNat := wordStartS_le _ _
  unfold changeS
  by_cases a1 : a = 1
  · rw [if_pos a1]
    exact insert_good h _ _
  rw [if_neg a1]
  by_cases a9 : a = 9
  · rw [if_pos a9]
    split <;> exact remove_good h _ _ _ (by omega) (by omega)
  rw [if_neg a9]
  by_cases a10 : a = 10
  · rw [if_pos a10]
    split <;> exact remove_good h _ _ _ (by omega) (by omega)
  rw [if_neg a10]
  by_cases a23 : a = 23
  · rw [if_pos a23]
    split <;> exact remove_good h _ _ _ (by omega) (by omega)
  rw [if_neg a23]
  by_cases a11 : a = 11
  · rw [if_pos a11]
    exact kill_good h _ _ _ (by omega) (by omega)
  rw [if_neg a11]
  by_cases a12 : a = 12
  · rw [if_pos a12]
    exact kill_good h _ _ _ (by omega) (by omega)
  rw [if_neg a12]
  by_cases a13 : a = 13
  · rw [if_pos a13]
    exact kill_good h _ _ _ (by omega) (by omega)
  rw [if_neg a13]
  by_cases a14 : a = 14
  · rw [if_pos a14]
    exact kill_good h _ _ _ (by omega) (by omega)
  rw [if_neg a14]
  by_cases a15 : a = 15
  · rw [if_pos a15]
    split
    · exact h
    · exact insert_good h _ _
  rw [if_neg a15]
  by_cases a16 : a = 16
  · rw [if_pos a16]
    exact rotate_good h
  rw [if_neg a16]
  by_cases a17 : a = 17
  · rw [if_pos a17]
    exact undo_good h
  rw [if_neg a17]
  by_cases a18 : a = 18
  · rw [if_pos a18]
    exact redo_good h
  rw [if_neg a18]
  by_cases a19 : a = 19
  · rw [if_pos a19]
    exact trans_good h
  rw [if_neg a19]
  by_cases a20 : a = 20
  · rw [if_pos a20]
    unfold upS
    split
    · exact line_good h _ (by omega) (by omega)
    · exact h
  rw [if_neg a20]
  by_cases a21 : a = 21
  · rw [if_pos a21]
    unfold downS
    split
    · exact line_good h _ (by omega) (by omega)
    · exact h
  rw [if_neg a21]
  by_cases a27 : a = 27
  · rw [if_pos a27]
    exact cased_good h _ _ we
  rw [if_neg a27]
  by_cases a28 : a = 28
  · rw [if_pos a28]
    exact cased_good h _ _ we
  rw [if_neg a28]
  exact h
theorem move_good {s : St} (h : Good s) (a : Int) : Good (moveS s a) := by
  have h1 := h.low
  have h2 := h.high
  have h3 := h.mark0
  have h4 := h.mark1
  have we : wordEndS s.text s.pos.toNat ≤ s.text.size := wordEndS_le _ _ (by omega)
  have ws : wordStartS s.text s.pos.toNat ≤ s.pos.toNat := wordStartS_le _ _
  unfold moveS
  repeat' split
  all_goals first
    | exact h
    | exact h.withPos (by omega) (by omega) (by omega) (by omega)
theorem do_good {s : St} (h : Good s) (a : Int) (x : ByteArray) : Good (doS s a x) := by
  unfold doS doneS
  split
  · exact h
  · split
    · exact (move_good h a).withLast (by omega) (by omega)
    · exact (change_good h a x).withLast (by omega) (by omega)
end Go.Proofs.Ytlbbjdggebgabaa.P
end

section
/- The reference's Do. -/
namespace Go.Proofs.Ytlbbjdggebgabaa.P
open Go.RowKit Go.Proofs.YtlbbjdggebgabaaW.PrintWords Go.Proofs.YtlbbjdggebgabaaW.PrintLast Go.Proofs.YtlbbjdggebgabaaW.PrintMore
set_option linter.unusedVariables false
set_option linter.unusedSimpArgs false

/-- A box of the call's own with an editor in it, whose lists keep away from it. -/
def XBox (w1 wc : World) (P : Nat → Prop) (S : St) (gx : Nat) : Prop := w1.heap.size ≤ gx ∧ Below w1.heap.size w1 wc ∧ ∃ (Ak Au Ar : Option Addr) (ck cu cr : Nat), wc.heap[gx]? = some (.cells #[.string S.text, .int .i64 S.pos, .int .i64 S.mark, .slice Ak S.kills.length ck, .slice Au S.undo.length cu, .slice Ar S.redo.length cr, .string S.keys, .int .i64 S.last, .int .i64 S.line, .string S.saved] 27 (0, 0)) ∧
  Kd.V Kd.string 9 wc 0 (fun k => P k ∧ k ≠ gx) (.slice Ak S.kills.length ck) S.kills ∧ Kd.V k23 23 wc 0 (fun k => P k ∧ k ≠ gx) (.slice Au S.undo.length cu) S.undo ∧ Kd.V k23 23 wc 0 (fun k => P k ∧ k ≠ gx) (.slice Ar S.redo.length cr) S.redo
theorem XBox.fill {w1 W : World} {P : Nat → Prop} {S : St} {gx : Nat} {Ak Au Ar : Option Addr} {ck cu cr : Nat} {z0 z1 z2 z3 z4 z5 z6 z7 z8 z9 : Value} (hg : w1.heap.size ≤ gx) (hb : Below w1.heap.size w1 W) (h : W.heap[gx]? = some (.cells #[z0, z1, z2, z3, z4, z5, z6, z7, z8, z9] 27 (0, 0)))
    (g1 : Kd.V Kd.string 9 W 0 (fun k => P k ∧ k ≠ gx) (.slice Ak S.kills.length ck) S.kills) (g2 : Kd.V k23 23 W 0 (fun k => P k ∧ k ≠ gx) (.slice Au S.undo.length cu) S.undo) (g3 : Kd.V k23 23 W 0 (fun k => P k ∧ k ≠ gx) (.slice Ar S.redo.length cr) S.redo) :
    XBox w1 (fillW W gx (.string S.text) (.int .i64 S.pos) (.int .i64 S.mark) (.slice Ak S.kills.length ck) (.slice Au S.undo.length cu) (.slice Ar S.redo.length cr) (.string S.keys) (.int .i64 S.last) (.int .i64 S.line) (.string S.saved)) P S gx :=
  ⟨hg, fillW_below hb hg, Ak, Au, Ar, ck, cu, cr, fillW_blk h, fillW_V g1 (fun k hk => hk.2), fillW_V g2 (fun k hk => hk.2), fillW_V g3 (fun k hk => hk.2)⟩
theorem XBox.new {w1 W : World} {P : Nat → Prop} {S : St} {Ak Au Ar : Option Addr} {ck cu cr : Nat} (hb : Below w1.heap.size w1 W)
    (g1 : Kd.V Kd.string 9 W 0 P (.slice Ak S.kills.length ck) S.kills) (g2 : Kd.V k23 23 W 0 P (.slice Au S.undo.length cu) S.undo) (g3 : Kd.V k23 23 W 0 P (.slice Ar S.redo.length cr) S.redo) :
    XBox w1 (W.alloc (.cells #[.string S.text, .int .i64 S.pos, .int .i64 S.mark, .slice Ak S.kills.length ck, .slice Au S.undo.length cu, .slice Ar S.redo.length cr, .string S.keys, .int .i64 S.last, .int .i64 S.line, .string S.saved] 27)) P S W.heap.size :=
  ⟨hb.size, below_alloc hb _, Ak, Au, Ar, ck, cu, cr, blk_new _ _, Kd.V_mono (Kd.V_alloc (Kd.V_bound g1) _) (fun k hk => ⟨hk.1, by have := hk.2; omega⟩), Kd.V_mono (Kd.V_alloc (Kd.V_bound g2) _) (fun k hk => ⟨hk.1, by have := hk.2; omega⟩), Kd.V_mono (Kd.V_alloc (Kd.V_bound g3) _) (fun k hk => ⟨hk.1, by have := hk.2; omega⟩)⟩

theorem rchange_n (w : World) (P : Nat → Prop) (s : St) (a : Int) (x : ByteArray) (Al : Option Addr) (cl n : Nat) (v : Value) (hn : n = s.lines.length) (hv : EdV w P s v) (R : RefOk s) (hx : x.size ≤ 1000000) (hC : Kd.C Kd.string w Al n s.lines) :
    Calls Try.prog 30 #[v, .int .i64 a, .string x, .slice Al n cl] w fun e w' => ∃ v', e = .returned v' ∧ EdV w' (fun k => P k ∨ w.heap.size ≤ k) (changeS s a x) v' ∧ Below w.heap.size w w' := by
  subst hn
  exact rchange_calls w P s a x Al cl v hv R hx hC
theorem changeS_moves (s : St) (a : Int) (x : ByteArray) (h : moves a = true) : changeS s a x = s := by
  unfold moves at h
  simp only [Bool.or_eq_true, beq_iff_eq] at h
  unfold changeS
  rcases h with ((((((h | h) | h) | h) | h) | h) | h) | h <;> subst h <;> simp
/-- Do, as the reference has it: a move, then a change. -/
theorem doneS_ref (s : St) (a : Int) (x : ByteArray) : doneS s a x = { changeS (moveS s a) a x with last := a } := by
  unfold doneS
  by_cases h : moves a = true
  · rw [if_pos h, changeS_moves _ _ _ h]
  · rw [if_neg h, moveS_not s a (by simpa using h)]

set_option maxHeartbeats 16000000 in
set_option maxRecDepth 100000 in
theorem rdo_calls (w : World) (P : Nat → Prop) (s : St) (a : Int) (x : ByteArray) (v h : Value) (hv : EdV w P s v) (R : RefOk s) (R2 : RefOk (moveS s a)) (hx : x.size ≤ 1000000) (hh : HiC w s.off s.lines h) :
    Calls Try.prog 17 #[v, .int .i64 a, .string x, h] w fun e w' => ∃ v', e = .returned v' ∧ EdV w' (fun k => P k ∨ w.heap.size ≤ k) (doS s a x) v' ∧ Below w.heap.size w w' := by
  have hvo := hv.old
  obtain ⟨P0, hP0⟩ : ∃ Q : Nat → Prop, Q = fun k => P k ∧ k < w.heap.size := ⟨_, rfl⟩
  rw [← hP0] at hvo
  have hp1 : ∀ k, P0 k → P k ∧ k < w.heap.size := by intro k hk; rw [hP0] at hk; exact hk
  clear hP0
  obtain ⟨Ak, Au, Ar, ck, cu, cr, rfl, v1, v2, v3⟩ := hvo
  obtain ⟨Al, cl, rfl, hlc, hC⟩ := hh
  have hu27 := Try.underlying27
  have hu23 := Try.underlying23
  have hu38 := Try.underlying38
  obtain ⟨w1, hw1⟩ : ∃ z, z = ((w.alloc (.cells #[.string s.text, .int .i64 s.pos, .int .i64 s.mark, .slice Ak s.kills.length ck, .slice Au s.undo.length cu, .slice Ar s.redo.length cr, .string s.keys, .int .i64 s.last, .int .i64 s.line, .string s.saved] 27)).alloc (.cells #[.int .i64 s.off, .slice Al s.lines.length cl] 38)).alloc (.cells #[.string ⟨#[]⟩, .int .i64 0, .int .i64 0, .slice none 0 0, .slice none 0 0, .slice none 0 0, .string ⟨#[]⟩, .int .i64 0, .int .i64 0, .string ⟨#[]⟩] 27) := ⟨_, rfl⟩
  have hb1 : Below w.heap.size w w1 := by rw [hw1]; exact below_alloc (below_alloc (below_alloc (Below.refl _ _) _) _) _
  have HE := Aside0.mk (show w1.heap[w.heap.size]? = some (.cells #[.string s.text, .int .i64 s.pos, .int .i64 s.mark, .slice Ak s.kills.length ck, .slice Au s.undo.length cu, .slice Ar s.redo.length cr, .string s.keys, .int .i64 s.last, .int .i64 s.line, .string s.saved] 27 (0, 0)) from by rw [hw1]; exact blk_alloc (blk_alloc (blk_new w _) _) _)
  have HH := Aside0.mk (show w1.heap[w.heap.size + 1]? = some (.cells #[.int .i64 s.off, .slice Al s.lines.length cl] 38 (0, 0)) from by rw [hw1]; exact blk_alloc (blk_new2 w _ _ _) _)
  have HR := Aside0.mk (show w1.heap[w.heap.size + 1 + 1]? = some (.cells #[.string ⟨#[]⟩, .int .i64 0, .int .i64 0, .slice none 0 0, .slice none 0 0, .slice none 0 0, .string ⟨#[]⟩, .int .i64 0, .int .i64 0, .string ⟨#[]⟩] 27 (0, 0)) from by rw [hw1]; exact blk_new3 w _ _ _ _)
  have HSZ := Aside0.mk (show w1.heap.size = w.heap.size + 1 + 1 + 1 from by rw [hw1]; simp)
  have HB1 := Aside0.mk hb1
  have HP1 := Aside0.mk hp1
  have HW1 := Aside0.mk hw1
  have HV := Aside0.mk (show EdV w1 P0 s (edV s (.slice Ak s.kills.length ck) (.slice Au s.undo.length cu) (.slice Ar s.redo.length cr)) from ⟨Ak, Au, Ar, ck, cu, cr, rfl, Kd.V_below v1 hb1, Kd.V_below v2 hb1, Kd.V_below v3 hb1⟩)
  have K1 := Aside0.mk (Kd.V_below v1 hb1)
  have K2 := Aside0.mk (Kd.V_below v2 hb1)
  have K3 := Aside0.mk (Kd.V_below v3 hb1)
  have KC := Aside0.mk (Kd.C_below hC hb1)
  have HRK := Aside0.mk R
  have HRK2 := Aside0.mk R2
  unfold edV at HV hv ⊢
  clear hv v1 v2 v3 hw1 hb1 hp1 hC R R2 hlc
  unfold doS
  by_cases ha : a < 0 ∨ 28 < a
  · rw [if_pos ha]
    have ha' : (decide (a < 0) = true ∧ True) ∨ (decide (a < 0) = false ∧ decide (28 < a) = true) := by
      by_cases l : a < 0
      · exact .inl ⟨decide_eq_true l, trivial⟩
      · exact .inr ⟨decide_eq_false l, decide_eq_true (ha.resolve_left l)⟩
    clear ha
    rcases ha' with ⟨a1, a2⟩ | ⟨a1, a2⟩
    all_goals
      go_enter Try.func17, Try.ntmps17
      go_upto_region 1 with (fail)
      rw [← HW1.out]
      have hqe := blk_frozen HE.out
      obtain ⟨d0, d1, d2, d3, d4, d5, d6, d7, d8, d9⟩ := Box.cells (s := s) HE.out
      have hqr := blk_frozen HR.out
      obtain ⟨r0, r1, r2, r3, r4, r5, r6, r7, r8, r9⟩ := ten_cells HR.out
      go_wp2_with (fail)
      obtain ⟨y1, y2, y3⟩ := put_edV (w := w) (s := s) (rb := w.heap.size + 1 + 1) K1.out K2.out K3.out (fun k hk => by have := (HP1.out k hk).2; omega) HR.out HB1.out (by omega)
      refine bodyPost_ret (results_cell_row rfl _ _ (w.heap.size + 1 + 1) 27 _ (0, 0) _ rfl y1 hu27 rfl (by first | rfl | decide)) rfl ?_
      exact ⟨_, rfl, y2.mono (fun k hk => .inl (HP1.out k hk).1), y3⟩
  rw [if_neg ha, doneS_ref]
  have a1 : decide (a < 0) = false := decide_eq_false (fun h => ha (.inl h))
  have a2 : decide (28 < a) = false := decide_eq_false (fun h => ha (.inr h))
  clear ha
  obtain ⟨S, hS⟩ : ∃ z, z = changeS (moveS s a) a x := ⟨_, rfl⟩
  rw [← hS]
  have HS := Aside0.mk hS
  have HLN := Aside0.mk (show (moveS s a).lines = s.lines from (moveS_keep s a).2.2.2)
  clear hS
  obtain ⟨PN, hPN⟩ : ∃ Q : Nat → Prop, Q = fun k => P0 k ∨ w1.heap.size ≤ k := ⟨_, rfl⟩
  have HNE := Aside0.mk (show ∀ k, PN k → k ≠ w.heap.size + 1 + 1 from by intro k hk; rw [hPN] at hk; have h1 := HP1.out k; have h2 := HSZ.out; rcases hk with hk | hk; exact (by have := (h1 hk).2; omega); exact (by omega))
  have HPQ := Aside0.mk (show ∀ k, PN k → (P k ∨ w.heap.size ≤ k) from by intro k hk; rw [hPN] at hk; have h2 := HSZ.out; rcases hk with hk | hk; exact .inl (HP1.out k hk).1; exact .inr (by omega))
  have HQN := Aside0.mk (show ∀ k, (P0 k ∨ w1.heap.size ≤ k) → PN k from by intro k hk; rw [hPN]; exact hk)
  have HLT := Aside0.mk (show ∀ k, P0 k → k < w1.heap.size from by intro k hk; have := (HP1.out k hk).2; have := HSZ.out; omega)
  clear hPN
  go_enter Try.func17, Try.ntmps17
  go_upto_region 3 with (fail)
  rw [← HW1.out]
  go_cut [9] (fun v9 wc => ∃ gx, v9 = .pointer (some ⟨gx, 0, none⟩) ∧ Aside0 (XBox w1 wc PN S gx))
  case first =>
    obtain ⟨d0, d1, d2, d3, d4, d5, d6, d7, d8, d9⟩ := Box.cells (s := s) HE.out
    have h1 := (blk_cell HH.out 1).trans rfl
    have hq1 : ¬ w.heap.size = w1.heap.size := by have := HSZ.out; omega
    have hq2 : ¬ w.heap.size + 1 = w1.heap.size := by have := HSZ.out; omega
    have hq3 : ¬ w1.heap.size = w.heap.size := by have := HSZ.out; omega
    have hq4 : ¬ w1.heap.size = w.heap.size + 1 := by have := HSZ.out; omega
    have HVb := Aside0.mk (HV.out.below (below_drew (Below.refl w1.heap.size w1)))
    have HVa := Aside0.mk (HV.out.below (below_drew (below_alloc (Below.refl w1.heap.size w1) (.cells #[.string ⟨#[]⟩, .int .i64 0, .int .i64 0, .slice none 0 0, .slice none 0 0, .slice none 0 0, .string ⟨#[]⟩, .int .i64 0, .int .i64 0, .string ⟨#[]⟩] 27))))
    have HOK := Aside0.mk HRK.out.ok
    have m1 := (blk_cell (blk_alloc HH.out (.cells #[.string ⟨#[]⟩, .int .i64 0, .int .i64 0, .slice none 0 0, .slice none 0 0, .slice none 0 0, .string ⟨#[]⟩, .int .i64 0, .int .i64 0, .string ⟨#[]⟩] 27)) 1).trans rfl
    have f0 := (blk_cell (blk_alloc HE.out (.cells #[.string ⟨#[]⟩, .int .i64 0, .int .i64 0, .slice none 0 0, .slice none 0 0, .slice none 0 0, .string ⟨#[]⟩, .int .i64 0, .int .i64 0, .string ⟨#[]⟩] 27)) 0).trans rfl
    have f1 := (blk_cell (blk_alloc HE.out (.cells #[.string ⟨#[]⟩, .int .i64 0, .int .i64 0, .slice none 0 0, .slice none 0 0, .slice none 0 0, .string ⟨#[]⟩, .int .i64 0, .int .i64 0, .string ⟨#[]⟩] 27)) 1).trans rfl
    have f2 := (blk_cell (blk_alloc HE.out (.cells #[.string ⟨#[]⟩, .int .i64 0, .int .i64 0, .slice none 0 0, .slice none 0 0, .slice none 0 0, .string ⟨#[]⟩, .int .i64 0, .int .i64 0, .string ⟨#[]⟩] 27)) 2).trans rfl
    have f3 := (blk_cell (blk_alloc HE.out (.cells #[.string ⟨#[]⟩, .int .i64 0, .int .i64 0, .slice none 0 0, .slice none 0 0, .slice none 0 0, .string ⟨#[]⟩, .int .i64 0, .int .i64 0, .string ⟨#[]⟩] 27)) 3).trans rfl
    have f4 := (blk_cell (blk_alloc HE.out (.cells #[.string ⟨#[]⟩, .int .i64 0, .int .i64 0, .slice none 0 0, .slice none 0 0, .slice none 0 0, .string ⟨#[]⟩, .int .i64 0, .int .i64 0, .string ⟨#[]⟩] 27)) 4).trans rfl
    have f5 := (blk_cell (blk_alloc HE.out (.cells #[.string ⟨#[]⟩, .int .i64 0, .int .i64 0, .slice none 0 0, .slice none 0 0, .slice none 0 0, .string ⟨#[]⟩, .int .i64 0, .int .i64 0, .string ⟨#[]⟩] 27)) 5).trans rfl
    have f6 := (blk_cell (blk_alloc HE.out (.cells #[.string ⟨#[]⟩, .int .i64 0, .int .i64 0, .slice none 0 0, .slice none 0 0, .slice none 0 0, .string ⟨#[]⟩, .int .i64 0, .int .i64 0, .string ⟨#[]⟩] 27)) 6).trans rfl
    have f7 := (blk_cell (blk_alloc HE.out (.cells #[.string ⟨#[]⟩, .int .i64 0, .int .i64 0, .slice none 0 0, .slice none 0 0, .slice none 0 0, .string ⟨#[]⟩, .int .i64 0, .int .i64 0, .string ⟨#[]⟩] 27)) 7).trans rfl
    have f8 := (blk_cell (blk_alloc HE.out (.cells #[.string ⟨#[]⟩, .int .i64 0, .int .i64 0, .slice none 0 0, .slice none 0 0, .slice none 0 0, .string ⟨#[]⟩, .int .i64 0, .int .i64 0, .string ⟨#[]⟩] 27)) 8).trans rfl
    have f9 := (blk_cell (blk_alloc HE.out (.cells #[.string ⟨#[]⟩, .int .i64 0, .int .i64 0, .slice none 0 0, .slice none 0 0, .slice none 0 0, .string ⟨#[]⟩, .int .i64 0, .int .i64 0, .string ⟨#[]⟩] 27)) 9).trans rfl
    have HSA := Aside0.mk (show (w1.alloc (.cells #[.string ⟨#[]⟩, .int .i64 0, .int .i64 0, .slice none 0 0, .slice none 0 0, .slice none 0 0, .string ⟨#[]⟩, .int .i64 0, .int .i64 0, .string ⟨#[]⟩] 27)).drew.heap.size = w1.heap.size + 1 from by simp)
    have HXA := Aside0.mk (show (w1.alloc (.cells #[.string ⟨#[]⟩, .int .i64 0, .int .i64 0, .slice none 0 0, .slice none 0 0, .slice none 0 0, .string ⟨#[]⟩, .int .i64 0, .int .i64 0, .string ⟨#[]⟩] 27)).drew.heap[w1.heap.size]? = some (.cells #[.string ⟨#[]⟩, .int .i64 0, .int .i64 0, .slice none 0 0, .slice none 0 0, .slice none 0 0, .string ⟨#[]⟩, .int .i64 0, .int .i64 0, .string ⟨#[]⟩] 27 (0, 0)) from blk_drew (blk_new w1 _))
    have HCL := Aside0.mk (show ∀ W, Below w1.heap.size w1 W → Kd.C Kd.string W Al s.lines.length (moveS s a).lines from fun W hb => by rw [HLN.out]; exact Kd.C_below KC.out hb)
    have HL2 := Aside0.mk (show s.lines.length = (moveS s a).lines.length from by rw [HLN.out])
    go_region_with (first | (go_at_call 31; (with_reducible refine (rmove_calls (w1.alloc (.cells #[.string ⟨#[]⟩, .int .i64 0, .int .i64 0, .slice none 0 0, .slice none 0 0, .slice none 0 0, .string ⟨#[]⟩, .int .i64 0, .int .i64 0, .string ⟨#[]⟩] 27)).drew P0 s a _ HVa.out HOK.out).mono ?_); rintro e w2 ⟨v2, rfl, hv2, hb2⟩; have hbl := below_step (below_drew (below_alloc (Below.refl w1.heap.size w1) (.cells #[.string ⟨#[]⟩, .int .i64 0, .int .i64 0, .slice none 0 0, .slice none 0 0, .slice none 0 0, .string ⟨#[]⟩, .int .i64 0, .int .i64 0, .string ⟨#[]⟩] 27))) hb2; have HE2 := Aside0.mk (blk_below HE.out hbl); have HH2 := Aside0.mk (blk_below HH.out hbl); obtain ⟨e0, e1, e2, e3, e4, e5, e6, e7, e8, e9⟩ := ten_cells HE2.out; have hh2 := (blk_cell HH2.out 1).trans rfl; have HBL := Aside0.mk hbl; have hh3 := (blk_cell (blk_alloc HH2.out (.cells #[.string ⟨#[]⟩, .int .i64 0, .int .i64 0, .slice none 0 0, .slice none 0 0, .slice none 0 0, .string ⟨#[]⟩, .int .i64 0, .int .i64 0, .string ⟨#[]⟩] 27)) 1).trans rfl; have hk1 : ¬ w.heap.size = w2.heap.size := (by have := HBL.out.size; have := HSZ.out; omega); have hk2 : ¬ w.heap.size + 1 = w2.heap.size := (by have := HBL.out.size; have := HSZ.out; omega); have hk3 : ¬ w2.heap.size = w.heap.size := (by have := HBL.out.size; have := HSZ.out; omega); have hk4 : ¬ w2.heap.size = w.heap.size + 1 := (by have := HBL.out.size; have := HSZ.out; omega); have HX2 := Aside0.mk (blk_below HXA.out hb2); have HV2 := Aside0.mk (show EdV w2 (fun k => (P0 k ∨ w1.heap.size + 1 ≤ k) ∧ k < w2.heap.size) (moveS s a) v2 from hv2.old.mono (fun k hk => ⟨hk.1.elim .inl (fun h => .inr (by rw [HSA.out] at h; exact h)), hk.2⟩)); clear hv2 hb2 hbl) | (go_at_call 31; (with_reducible refine (rmove_calls w1.drew P0 s a _ HVb.out HOK.out).mono ?_); rintro e w2 ⟨v2, rfl, hv2, hb2⟩; have hbl := below_step (below_drew (Below.refl w1.heap.size w1)) hb2; have HE2 := Aside0.mk (blk_below HE.out hbl); have HH2 := Aside0.mk (blk_below HH.out hbl); obtain ⟨e0, e1, e2, e3, e4, e5, e6, e7, e8, e9⟩ := ten_cells HE2.out; have hh2 := (blk_cell HH2.out 1).trans rfl; have HBL := Aside0.mk hbl; have hh3 := (blk_cell (blk_alloc HH2.out (.cells #[.string ⟨#[]⟩, .int .i64 0, .int .i64 0, .slice none 0 0, .slice none 0 0, .slice none 0 0, .string ⟨#[]⟩, .int .i64 0, .int .i64 0, .string ⟨#[]⟩] 27)) 1).trans rfl; have hk1 : ¬ w.heap.size = w2.heap.size := (by have := HBL.out.size; have := HSZ.out; omega); have hk2 : ¬ w.heap.size + 1 = w2.heap.size := (by have := HBL.out.size; have := HSZ.out; omega); have hk3 : ¬ w2.heap.size = w.heap.size := (by have := HBL.out.size; have := HSZ.out; omega); have hk4 : ¬ w2.heap.size = w.heap.size + 1 := (by have := HBL.out.size; have := HSZ.out; omega); have HV2 := Aside0.mk (show EdV w2 (fun k => (P0 k ∨ w1.heap.size ≤ k) ∧ k < w2.heap.size) (moveS s a) v2 from hv2.old); clear hv2 hb2 hbl) | (go_at_call 30; have _ht := HX2; (with_reducible refine (rchange_n w2 _ (moveS s a) a x Al cl s.lines.length _ HL2.out HV2.out HRK2.out hx (HCL.out _ HBL.out)).mono ?_); rintro e w4 ⟨v4, rfl, hv4, hb4⟩; have HX4 := Aside0.mk (blk_below HX2.out hb4); have hqz := blk_frozen HX4.out; have z0 := (blk_cell HX4.out 0).trans rfl; have z1 := (blk_cell HX4.out 1).trans rfl; have z2 := (blk_cell HX4.out 2).trans rfl; have z3 := (blk_cell HX4.out 3).trans rfl; have z4 := (blk_cell HX4.out 4).trans rfl; have z5 := (blk_cell HX4.out 5).trans rfl; have z6 := (blk_cell HX4.out 6).trans rfl; have z7 := (blk_cell HX4.out 7).trans rfl; have z8 := (blk_cell HX4.out 8).trans rfl; have z9 := (blk_cell HX4.out 9).trans rfl; have hszw := HBL.out.size; have hltx := blk_lt HX2.out; have hbl := below_step HBL.out hb4; have HB4 := Aside0.mk hbl; rw [← HS.out] at hv4; have hv4 := hv4.mono (fun k hk => (show PN k ∧ k ≠ w1.heap.size from by rcases hk with ⟨h | h, h3⟩ | h; exact ⟨HQN.out k (.inl h), by have := HLT.out k h; omega⟩; exact ⟨HQN.out k (.inr (by omega)), by omega⟩; exact ⟨HQN.out k (.inr (by omega)), by (have : w1.drew.heap.size = w1.heap.size := rfl); omega⟩)); obtain ⟨Ak4, Au4, Ar4, ck4, cu4, cr4, rfl, g1, g2, g3⟩ := hv4.opn; have G1 := Aside0.mk g1; have G2 := Aside0.mk g2; have G3 := Aside0.mk g3; clear hv4 g1 g2 g3 hb4 hbl; clear _ht hszw hltx) | (go_at_call 30; (with_reducible refine (rchange_n (w2.alloc (.cells #[.string ⟨#[]⟩, .int .i64 0, .int .i64 0, .slice none 0 0, .slice none 0 0, .slice none 0 0, .string ⟨#[]⟩, .int .i64 0, .int .i64 0, .string ⟨#[]⟩] 27)) _ (moveS s a) a x Al cl s.lines.length _ HL2.out (HV2.out.below (below_alloc (Below.refl _ _) _)) HRK2.out hx (HCL.out _ (below_alloc HBL.out _))).mono ?_); rintro e w4 ⟨v4, rfl, hv4, hb4⟩; have HX4 := Aside0.mk (blk_below (blk_new w2 _) hb4); have hqz := blk_frozen HX4.out; have z0 := (blk_cell HX4.out 0).trans rfl; have z1 := (blk_cell HX4.out 1).trans rfl; have z2 := (blk_cell HX4.out 2).trans rfl; have z3 := (blk_cell HX4.out 3).trans rfl; have z4 := (blk_cell HX4.out 4).trans rfl; have z5 := (blk_cell HX4.out 5).trans rfl; have z6 := (blk_cell HX4.out 6).trans rfl; have z7 := (blk_cell HX4.out 7).trans rfl; have z8 := (blk_cell HX4.out 8).trans rfl; have z9 := (blk_cell HX4.out 9).trans rfl; have hszw := HBL.out.size; have hs2 : (w2.alloc (.cells #[.string ⟨#[]⟩, .int .i64 0, .int .i64 0, .slice none 0 0, .slice none 0 0, .slice none 0 0, .string ⟨#[]⟩, .int .i64 0, .int .i64 0, .string ⟨#[]⟩] 27)).heap.size = w2.heap.size + 1 := (by simp); have hbl := below_step (below_alloc HBL.out (.cells #[.string ⟨#[]⟩, .int .i64 0, .int .i64 0, .slice none 0 0, .slice none 0 0, .slice none 0 0, .string ⟨#[]⟩, .int .i64 0, .int .i64 0, .string ⟨#[]⟩] 27)) hb4; have HB4 := Aside0.mk hbl; rw [← HS.out] at hv4; have hv4 := hv4.mono (fun k hk => (show PN k ∧ k ≠ w2.heap.size from by rcases hk with ⟨h | h, h3⟩ | h; exact ⟨HQN.out k (.inl h), by omega⟩; exact ⟨HQN.out k (.inr h), by omega⟩; exact ⟨HQN.out k (.inr (by omega)), by omega⟩)); obtain ⟨Ak4, Au4, Ar4, ck4, cu4, cr4, rfl, g1, g2, g3⟩ := hv4.opn; have G1 := Aside0.mk g1; have G2 := Aside0.mk g2; have G3 := Aside0.mk g3; clear hv4 g1 g2 g3 hb4 hbl; clear hszw hs2) | (go_at_call 30; (with_reducible refine (rchange_n w2 _ (moveS s a) a x Al cl s.lines.length _ HL2.out HV2.out HRK2.out hx (HCL.out _ HBL.out)).mono ?_); rintro e w4 ⟨v4, rfl, hv4, hb4⟩; have hszw := HBL.out.size; have hbl := below_step HBL.out hb4; have HB4 := Aside0.mk hbl; rw [← HS.out] at hv4; have hv4 := hv4.mono (fun k hk => (show PN k from by rcases hk with ⟨h | h, h3⟩ | h; exact HQN.out k (.inl h); exact HQN.out k (.inr h); exact HQN.out k (.inr (by omega)))); obtain ⟨Ak4, Au4, Ar4, ck4, cu4, cr4, rfl, g1, g2, g3⟩ := hv4.opn; have G1 := Aside0.mk g1; have G2 := Aside0.mk g2; have G3 := Aside0.mk g3; clear hv4 g1 g2 g3 hb4 hbl; clear hszw))
    all_goals (go_wp2; go_meet)
    all_goals
      case rel =>
        first
        | with_reducible exact ⟨_, rfl, ⟨XBox.new HB4.out G1.out G2.out G3.out⟩⟩
        | exact ⟨_, rfl, ⟨XBox.fill (Nat.le_refl _) HB4.out HX4.out G1.out G2.out G3.out⟩⟩
        | exact ⟨_, rfl, ⟨XBox.fill HBL.out.size HB4.out HX4.out G1.out G2.out G3.out⟩⟩
  case rest =>
    obtain ⟨gx, rfl, hX⟩ := hcut
    obtain ⟨hg, hbc, Ak5, Au5, Ar5, ck5, cu5, cr5, hbx, g1, g2, g3⟩ := hX.out
    have HX := Aside0.mk hbx
    have HG := Aside0.mk hg
    have HRc := Aside0.mk (blk_below HR.out hbc)
    have HBc := Aside0.mk (below_step HB1.out hbc)
    have G1 := Aside0.mk g1
    have G2 := Aside0.mk g2
    have G3 := Aside0.mk g3
    obtain ⟨Wc, hWc⟩ : ∃ z, z = wc := ⟨_, rfl⟩
    rw [← hWc] at HX HRc HBc G1 G2 G3 ⊢
    clear hX hg hbc hbx g1 g2 g3 hWc HE HH HR HV K1 K2 K3 KC HW1 HRK HRK2
    have hqx := blk_frozen HX.out
    obtain ⟨d0, d1, d2, d3, d4, d5, d6, d7, d8, d9⟩ := ten_cells HX.out
    obtain ⟨wx, hwx⟩ : ∃ z, z = Wc.setCell ⟨gx, 7, none⟩ (.int .i64 a) := ⟨_, rfl⟩
    have HEX := Aside0.mk (show wx.heap[gx]? = some (.cells #[.string S.text, .int .i64 S.pos, .int .i64 S.mark, .slice Ak5 S.kills.length ck5, .slice Au5 S.undo.length cu5, .slice Ar5 S.redo.length cr5, .string S.keys, .int .i64 a, .int .i64 S.line, .string S.saved] 27 (0, 0)) from by rw [hwx]; exact blk_put (cs' := #[.string S.text, .int .i64 S.pos, .int .i64 S.mark, .slice Ak5 S.kills.length ck5, .slice Au5 S.undo.length cu5, .slice Ar5 S.redo.length cr5, .string S.keys, .int .i64 a, .int .i64 S.line, .string S.saved]) HX.out 7 (.int .i64 a) rfl)
    have HRX := Aside0.mk (show wx.heap[w.heap.size + 1 + 1]? = some (.cells #[.string ⟨#[]⟩, .int .i64 0, .int .i64 0, .slice none 0 0, .slice none 0 0, .slice none 0 0, .string ⟨#[]⟩, .int .i64 0, .int .i64 0, .string ⟨#[]⟩] 27 (0, 0)) from by rw [hwx]; exact blk_far HRc.out (p := ⟨gx, 7, none⟩) (by have h1 := HG.out; have h2 := HSZ.out; simp; omega) _)
    have HBX := Aside0.mk (show Below w.heap.size w wx from by rw [hwx]; exact below_set HBc.out (by have h1 := HG.out; have h2 := HSZ.out; omega))
    have X1 := Aside0.mk (show Kd.V Kd.string 9 wx 0 (fun k => PN k ∧ k ≠ gx) _ _ from by rw [hwx]; exact Kd.V_far G1.out (p := ⟨gx, 7, none⟩) (fun k hk => hk.2) _)
    have X2 := Aside0.mk (show Kd.V k23 23 wx 0 (fun k => PN k ∧ k ≠ gx) _ _ from by rw [hwx]; exact Kd.V_far G2.out (p := ⟨gx, 7, none⟩) (fun k hk => hk.2) _)
    have X3 := Aside0.mk (show Kd.V k23 23 wx 0 (fun k => PN k ∧ k ≠ gx) _ _ from by rw [hwx]; exact Kd.V_far G3.out (p := ⟨gx, 7, none⟩) (fun k hk => hk.2) _)
    have HWX := Aside0.mk hwx
    clear hwx
    go_upto_region 5 with (fail)
    rw [← HWX.out]
    clear hqx d0 d1 d2 d3 d4 d5 d6 d7 d8 d9
    obtain ⟨d0, d1, d2, d3, d4, d5, d6, d7, d8, d9⟩ := ten_cells HEX.out
    have hqr := blk_frozen HRX.out
    obtain ⟨r0, r1, r2, r3, r4, r5, r6, r7, r8, r9⟩ := ten_cells HRX.out
    go_wp2_with (fail)
    obtain ⟨y1, y2, y3⟩ := put_edV (w := w) (W := wx) (s := { S with last := a }) (rb := w.heap.size + 1 + 1) X1.out X2.out X3.out (fun k hk => HNE.out k hk.1) HRX.out HBX.out (by omega)
    refine bodyPost_ret (results_cell_row rfl _ _ (w.heap.size + 1 + 1) 27 _ (0, 0) _ rfl y1 hu27 rfl (by first | rfl | decide)) rfl ?_
    exact ⟨_, rfl, y2.mono (fun k hk => HPQ.out k hk.1), y3⟩
end Go.Proofs.Ytlbbjdggebgabaa.P
end
