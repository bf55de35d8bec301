/- Texts of this claim, joined: R13, R14. -/
import Derived.Test.YtlbbjdggebgabaaRDM9
import Derived.Test.YtlbbjdggebgabaaRDM3
import Derived.StillTailTactics
section
/- The reference's kill. -/
namespace Go.Proofs.Ytlbbjdggebgabaa.P
open Go.RowKit Go.Proofs.YtlbbjdggebgabaaW.PrintWords Go.Proofs.YtlbbjdggebgabaaW.PrintLast Go.Proofs.YtlbbjdggebgabaaW.PrintMore
set_option linter.unusedVariables false
set_option linter.unusedSimpArgs false

theorem rkills_calls (a : Int) (b : Bool) (w : World) (h : killsB a = b) : Calls Try.prog 64 #[.int .i64 a] w fun e w' => e = .returned (.bool b) ∧ w = w' := by
  have hk : killsB a = (decide (11 ≤ a) && decide (a ≤ 14)) := by
    unfold killsB
    by_cases h1 : 11 ≤ a <;> by_cases h2 : a ≤ 14 <;> simp [h1, h2] <;> omega
  rw [hk] at h
  by_cases c1 : 11 ≤ a
  · have d1 : decide (11 ≤ a) = true := decide_eq_true c1
    rw [d1, Bool.true_and] at h
    clear hk c1
    go_enter Try.func64, Try.ntmps64
    go_wp2
    go_ret
    exact ⟨rfl, rfl⟩
  · have d1 : decide (11 ≤ a) = false := decide_eq_false c1
    rw [d1, Bool.false_and] at h
    subst h
    clear hk c1
    go_enter Try.func64, Try.ntmps64
    go_wp2
    go_ret
    exact ⟨rfl, rfl⟩
theorem kill_at (s : St) (a i j : Int) (h : i < j) : killS s a i j = { (setS s a (s.text.extract 0 i.toNat ++ s.text.extract j.toNat s.text.size) i).1 with kills := killedS s a (s.text.extract i.toNat j.toNat) } := by
  unfold killS removeS
  rw [if_pos h, if_pos h]
theorem killed_join (s : St) (a : Int) (x : ByteArray) (h : joins s x = true) : killedS s a x = s.kills.set (s.kills.length - 1) (if a = 12 ∨ a = 14 then x ++ lastOf s.kills else lastOf s.kills ++ x) := by
  unfold killedS
  rw [if_pos h]
  unfold joins at h
  rcases List.eq_nil_or_concat s.kills with h2 | ⟨a, b, h2⟩
  · rw [h2] at h; simp at h
  · rw [h2]; simp
theorem V_one {α : Type} {d : Kd α} {e n c : Nat} {w : World} {base : Nat} {ok : Nat → Prop} {A : Option Addr} {xs : List α} (h : Kd.V d e w base ok (.slice A n c) xs) (hs : d.sz = 1) (hm : 1 ≤ xs.length) : Kd.V d e w base ok (.slice (if c = (1 : Int).toNat then A else A.map (·.add ((1 : Int).toNat * 1))) (xs.drop 1).length (c - (1 : Int).toNat)) (xs.drop 1) := by
  obtain ⟨h1, h2, h3⟩ := Kd.V_at h
  subst h1
  have hf := Kd.F_cut (m := 1) h3 hm h2
  rw [hs] at hf
  exact Kd.V_mk (by rw [List.length_drop]; show xs.length - 1 ≤ c - 1; omega) hf

theorem put_edVn {w W : World} {rb : Nat} {s : St} {P : Nat → Prop} {Ak Au Ar : Option Addr} {ck cu cr : Nat} {z0 z1 z2 z3 z4 z5 z6 z7 z8 z9 : Value} (n : Nat) (hn : n = s.kills.length) (H3 : Kd.V Kd.string 9 W 0 P (.slice Ak n ck) s.kills) (H4 : Kd.V k23 23 W 0 P (.slice Au s.undo.length cu) s.undo) (H5 : Kd.V k23 23 W 0 P (.slice Ar s.redo.length cr) s.redo) (hP : ∀ k, P k → k ≠ rb)
    (hrb : W.heap[rb]? = some (.cells #[z0, z1, z2, z3, z4, z5, z6, z7, z8, z9] 27 (0, 0))) (hb : Below w.heap.size w W) (hr : w.heap.size ≤ rb) :
    (fillW W rb (.string s.text) (.int .i64 s.pos) (.int .i64 s.mark) (.slice Ak n ck) (.slice Au s.undo.length cu) (.slice Ar s.redo.length cr) (.string s.keys) (.int .i64 s.last) (.int .i64 s.line) (.string s.saved)).heap[rb]? = some (.cells #[.string s.text, .int .i64 s.pos, .int .i64 s.mark, .slice Ak n ck, .slice Au s.undo.length cu, .slice Ar s.redo.length cr, .string s.keys, .int .i64 s.last, .int .i64 s.line, .string s.saved] 27 (0, 0)) ∧ EdV (fillW W rb (.string s.text) (.int .i64 s.pos) (.int .i64 s.mark) (.slice Ak n ck) (.slice Au s.undo.length cu) (.slice Ar s.redo.length cr) (.string s.keys) (.int .i64 s.last) (.int .i64 s.line) (.string s.saved)) P s (.agg #[.string s.text, .int .i64 s.pos, .int .i64 s.mark, .slice Ak n ck, .slice Au s.undo.length cu, .slice Ar s.redo.length cr, .string s.keys, .int .i64 s.last, .int .i64 s.line, .string s.saved]) ∧ Below w.heap.size w (fillW W rb (.string s.text) (.int .i64 s.pos) (.int .i64 s.mark) (.slice Ak n ck) (.slice Au s.undo.length cu) (.slice Ar s.redo.length cr) (.string s.keys) (.int .i64 s.last) (.int .i64 s.line) (.string s.saved)) := by
  subst hn
  exact put_edV H3 H4 H5 hP hrb hb hr

set_option maxHeartbeats 16000000 in
set_option maxRecDepth 100000 in
theorem rkill_front (w : World) (P : Nat → Prop) (s : St) (a i j : Int) (v : Value) (hv : EdV w P s v) (ok : OkS s) (hm : s.mark ≤ s.text.size) (hk16 : s.kills.length ≤ 16) (hi0 : 0 ≤ i) (hij : i < j) (hj : j ≤ s.text.size) (ha : a = 12 ∨ a = 14) (hjn : joins s (s.text.extract i.toNat j.toNat) = true) :
    Calls Try.prog 47 #[v, .int .i64 i, .int .i64 j, .int .i64 a] w fun e w' => ∃ v', e = .returned v' ∧ EdV w' (fun k => P k ∨ w.heap.size ≤ k) (killS s a i j) v' ∧ Below w.heap.size w w' := by
  have hvo := hv.old
  obtain ⟨P0, hP0⟩ : ∃ Q : Nat → Prop, Q = fun k => P k ∧ k < w.heap.size := ⟨_, rfl⟩
  rw [← hP0] at hvo
  have hp1 : ∀ k, P0 k → P k ∧ k < w.heap.size := by intro k hk; rw [hP0] at hk; exact hk
  clear hP0
  obtain ⟨Ak, Au, Ar, ck, cu, cr, rfl, v1, v2, v3⟩ := hvo
  have hu27 := Try.underlying27
  have hu23 := Try.underlying23
  obtain ⟨w1, hw1⟩ : ∃ z, z = (w.alloc (.cells #[.string s.text, .int .i64 s.pos, .int .i64 s.mark, .slice Ak s.kills.length ck, .slice Au s.undo.length cu, .slice Ar s.redo.length cr, .string s.keys, .int .i64 s.last, .int .i64 s.line, .string s.saved] 27)).alloc (.cells #[.string ⟨#[]⟩, .int .i64 0, .int .i64 0, .slice none 0 0, .slice none 0 0, .slice none 0 0, .string ⟨#[]⟩, .int .i64 0, .int .i64 0, .string ⟨#[]⟩] 27) := ⟨_, rfl⟩
  obtain ⟨b1, b2, b3, b4⟩ := box2 w #[.string s.text, .int .i64 s.pos, .int .i64 s.mark, .slice Ak s.kills.length ck, .slice Au s.undo.length cu, .slice Ar s.redo.length cr, .string s.keys, .int .i64 s.last, .int .i64 s.line, .string s.saved] #[.string ⟨#[]⟩, .int .i64 0, .int .i64 0, .slice none 0 0, .slice none 0 0, .slice none 0 0, .string ⟨#[]⟩, .int .i64 0, .int .i64 0, .string ⟨#[]⟩] 27 27
  rw [← hw1] at b1 b2 b3 b4
  have HE := Aside0.mk b1
  have HR := Aside0.mk b2
  have HB1 := Aside0.mk b3
  have HSZ := Aside0.mk b4
  have HP1 := Aside0.mk hp1
  have HW1 := Aside0.mk hw1
  have HV := Aside0.mk (show EdV w1 P0 s (edV s (.slice Ak s.kills.length ck) (.slice Au s.undo.length cu) (.slice Ar s.redo.length cr)) from ⟨Ak, Au, Ar, ck, cu, cr, rfl, Kd.V_below v1 b3, Kd.V_below v2 b3, Kd.V_below v3 b3⟩)
  have K1 := Aside0.mk (Kd.V_below v1 b3)
  have K2 := Aside0.mk (Kd.V_below v2 b3)
  have K3 := Aside0.mk (Kd.V_below v3 b3)
  unfold edV at HV hv ⊢
  obtain ⟨d0, d1, d2, d3, d4, d5, d6, d7, d8, d9⟩ := Box.cells (s := s) b1
  clear hv v1 v2 v3 hw1 b1 b2 b3 b4 hp1
  clear d0 d1 d2 d3 d4 d5 d6 d7 d8 d9
  have hs := ok.text
  have hks := ok.each
  have HOK := Aside0.mk ok
  clear ok
  have q0 : (i == j) = false := beq_eq_false_iff_ne.mpr (by omega)
  have q1 : i ≤ j := by omega
  have q2 : i ≤ (s.text.size : Int) := by omega
  have q3 : 0 ≤ j := by omega
  have H16 := Aside0.mk hk16
  obtain ⟨S, hS⟩ : ∃ z, z = (setS s a (s.text.extract 0 i.toNat ++ s.text.extract j.toNat s.text.size) i).1 := ⟨_, rfl⟩
  rw [kill_at s a i j hij, ← hS]
  have HS := Aside0.mk hS
  obtain ⟨x, hx⟩ : ∃ z, z = s.text.extract i.toNat j.toNat := ⟨_, rfl⟩
  rw [← hx] at hjn ⊢
  have hxs : x.size = j.toNat - i.toNat := by rw [hx, ByteArray.size_extract]; omega
  have hxe : s.text.extract i.toNat j.toNat = x := hx.symm
  obtain ⟨PN, hPN⟩ : ∃ Q : Nat → Prop, Q = fun k => P0 k ∨ w1.heap.size ≤ k := ⟨_, rfl⟩
  have HPN := Aside0.mk (show ∀ k, PN k → k ≠ w.heap.size ∧ k ≠ w.heap.size + 1 from by intro k hk; rw [hPN] at hk; have h1 := HP1.out k; have h2 := HSZ.out; rcases hk with hk | hk; exact (by have := (h1 hk).2; omega); exact (by omega))
  have HPQ := Aside0.mk (show ∀ k, PN k → (P k ∨ w.heap.size ≤ k) from by intro k hk; rw [hPN] at hk; have h2 := HSZ.out; rcases hk with hk | hk; exact .inl (HP1.out k hk).1; exact .inr (by omega))
  have HNQ := Aside0.mk (show ∀ k, w1.heap.size ≤ k → PN k from by intro k hk; rw [hPN]; exact .inr hk)
  have HQN := Aside0.mk (show ∀ k, (P0 k ∨ w1.heap.size ≤ k) → PN k from by intro k hk; rw [hPN]; exact hk)
  have HLT := Aside0.mk (show ∀ k, P0 k → k < w1.heap.size from by intro k hk; have := (HP1.out k hk).2; have := HSZ.out; omega)
  have H12 := Aside0.mk (show w.heap.size ≤ w1.heap.size from by have := HSZ.out; omega)
  clear hS hx hPN hk16
  rw [killed_join s a x hjn, if_pos ha]
  unfold joins at hjn
  simp only [Bool.and_eq_true, Bool.not_eq_true', List.isEmpty_eq_false_iff, decide_eq_true_eq] at hjn
  obtain ⟨⟨k1, k2⟩, k3⟩ := hjn
  have hkp : 0 < s.kills.length := List.length_pos_iff.mpr k2
  obtain ⟨lst, hlst⟩ : ∃ z, z = lastOf s.kills := ⟨_, rfl⟩
  rw [← hlst] at k3 ⊢
  have HL := Aside0.mk hlst
  have hlz : lst.size ≤ 4096 := by omega
  have hxz : x.size ≤ 4096 := by omega
  obtain ⟨y, hy⟩ : ∃ z, z = s.kills.set (s.kills.length - 1) (x ++ lst) := ⟨_, rfl⟩
  rw [← hy]
  have HY := Aside0.mk hy
  have HYL := Aside0.mk (show y.length = s.kills.length from by rw [hy, List.length_set])
  have h16 := H16.out
  have b1 : IntKind.i64.wrap ((s.kills.length : Int) - 1) = (s.kills.length : Int) - 1 := by rw [IntKind.wrap_i64]; omega
  have n1 : 0 ≤ (s.kills.length : Int) - 1 := by omega
  have n2 : (s.kills.length : Int) - 1 < (s.kills.length : Int) := by omega
  have k4 : decide ((lst.size : Int) + (x.size : Int) ≤ 4096) = true := decide_eq_true (by omega)
  have k5 : decide (lst.size + x.size ≤ 4096) = true := decide_eq_true (by omega)
  have k6 : decide (16 < s.kills.length) = false := decide_eq_false (by have := H16.out; omega)
  have k7 : decide (16 < (s.kills.length : Int)) = false := decide_eq_false (by have := H16.out; omega)
  have k8 : (9223372036854775807 < x.size + lst.size) = False := eq_false (by omega)
  have k9 : decide (0 < s.kills.length) = true := decide_eq_true hkp
  have k0 : decide (0 < (s.kills.length : Int)) = true := decide_eq_true (by omega)
  have HK1 := Aside0.mk k1
  have ha' : (a == 12) = true ∧ True ∨ (a == 12) = false ∧ (a == 14) = true := by
    by_cases l : a = 12
    · exact .inl ⟨beq_iff_eq.mpr l, trivial⟩
    · exact .inr ⟨beq_eq_false_iff_ne.mpr l, beq_iff_eq.mpr (ha.resolve_left l)⟩
  clear ha
  clear hxs h16 k1 k2 k3 hlst hy hij hks
  rcases ha' with ⟨a1, a2⟩ | ⟨a1, a2⟩
  all_goals
    go_enter Try.func47, Try.ntmps47
    go_upto_region 1 with (fail)
    rw [← HW1.out]
    obtain ⟨d0, d1, d2, d3, d4, d5, d6, d7, d8, d9⟩ := Box.cells (s := s) HE.out
    go_upto_region 7 with (first | ((with_reducible refine gate_builtin (b := .append) (xs := #[.tmp 23, .tmp 25]) rfl ?_); at_builtin; refine Kd.R_append_rows Kd.string (w0 := w1) w1.heap.size rfl (.tmp 23) (.tmp 25) 24 9 (.string ⟨#[]⟩) 16 rfl Try.underlying24 info9 rfl (by decide) (by omega) (.slice none 0 0) ([] : List ByteArray) s.kills Ak s.kills.length ck (fun _ => True) (fun _ => False) rfl rfl ?aO ?aR (fun _ _ h => h) (fun _ h => h.elim) (fun _ _ => trivial) ?aB ?aS ?aL ?_; (case aR => exact (Kd.V_reads' K1.out).2.2); (case aO => exact Kd.R_nil _ _ _ _ _); (case aB => exact Below.refl _ _); (case aS => exact Nat.le_refl _); (case aL => (have := H16.out; simp only [List.length_nil]; omega)); intro v2 w2 ho2 hb2 hg2 hat2; rw [List.nil_append] at ho2; obtain ⟨gk, c2, rfl, hgk1, hgk2, _⟩ := Kd.R_form ho2 hkp; obtain ⟨lc, lf⟩ := last_cell ho2 hkp; rw [← HL.out] at lc; have HGK := Aside0.mk hgk1; clear hgk1 hgk2; have R2 := Aside0.mk ho2; have HE2 := Aside0.mk (blk_grown HE.out hg2 (by simp [Value.ownBlock])); have HR2 := Aside0.mk (blk_grown HR.out hg2 (by simp [Value.ownBlock])); have J1 := Aside0.mk (Kd.V_grown K1.out hg2 (fun k hk => by simp [Value.ownBlock])); have J2 := Aside0.mk (Kd.V_grown K2.out hg2 (fun k hk => by simp [Value.ownBlock])); have J3 := Aside0.mk (Kd.V_grown K3.out hg2 (fun k hk => by simp [Value.ownBlock])); have HB2 := Aside0.mk hb2; have d7 := (blk_cell HE2.out 7).trans rfl; clear ho2 hb2 hg2 hat2))
    clear d0 d1 d2 d3 d4 d5 d6 d8 d9
    go_upto_region 13 with (first | (go_at_call 64; refine (rkills_calls s.last true _ HK1.out).mono ?_; rintro e w' ⟨rfl, rfl⟩))
    obtain ⟨w3, hw3⟩ : ∃ z, z = w2.setCell ⟨gk, s.kills.length - 1, none⟩ (.string (x ++ lst)) := ⟨_, rfl⟩
    have hgk0 := HGK.out
    have e0 : ((s.kills.length : Int) - 1).toNat = s.kills.length - 1 := by omega
    have r3 := (Kd.R_putg R2.out ((s.kills.length : Int) - 1) (x ++ lst)).1
    rw [e0, ← HY.out] at r3
    have R3 := Aside0.mk (show Kd.R Kd.string 9 w3 w1.heap.size (fun _ => True) (.slice (some ⟨gk, 0, none⟩) s.kills.length c2) y from by rw [hw3]; exact r3)
    have ne1 : w.heap.size ≠ gk := by have := HSZ.out; omega
    have ne2 : w.heap.size + 1 ≠ gk := by have := HSZ.out; omega
    have HE3 := Aside0.mk (show w3.heap[w.heap.size]? = some (.cells #[.string s.text, .int .i64 s.pos, .int .i64 s.mark, .slice Ak s.kills.length ck, .slice Au s.undo.length cu, .slice Ar s.redo.length cr, .string s.keys, .int .i64 s.last, .int .i64 s.line, .string s.saved] 27 (0, 0)) from by rw [hw3]; exact blk_far HE2.out (p := ⟨gk, _, none⟩) ne1 _)
    have HR3 := Aside0.mk (show w3.heap[w.heap.size + 1]? = some (.cells #[.string ⟨#[]⟩, .int .i64 0, .int .i64 0, .slice none 0 0, .slice none 0 0, .slice none 0 0, .string ⟨#[]⟩, .int .i64 0, .int .i64 0, .string ⟨#[]⟩] 27 (0, 0)) from by rw [hw3]; exact blk_far HR2.out (p := ⟨gk, _, none⟩) ne2 _)
    have M1 := Aside0.mk (show Kd.V Kd.string 9 w3 0 P0 _ _ from by rw [hw3]; exact Kd.V_far J1.out (p := ⟨gk, _, none⟩) (fun k hk => by have := HLT.out k hk; simp; omega) _)
    have M2 := Aside0.mk (show Kd.V k23 23 w3 0 P0 _ _ from by rw [hw3]; exact Kd.V_far J2.out (p := ⟨gk, _, none⟩) (fun k hk => by have := HLT.out k hk; simp; omega) _)
    have M3 := Aside0.mk (show Kd.V k23 23 w3 0 P0 _ _ from by rw [hw3]; exact Kd.V_far J3.out (p := ⟨gk, _, none⟩) (fun k hk => by have := HLT.out k hk; simp; omega) _)
    have HB3 := Aside0.mk (show Below w1.heap.size w1 w3 from by rw [hw3]; exact below_set HB2.out HGK.out)
    have VY3 := Aside0.mk (Kd.V_mono (Kd.R_V (base' := 0) (Kd.R_bound R3.out)) (fun k hk => HNQ.out k hk.2.1))
    have HW3 := Aside0.mk hw3
    clear hw3 hgk0 e0 r3 ne1 ne2 lc lf d7
    rw [← HW3.out]
    have HE3d := blk_frozen HE3.out
    obtain ⟨d0, d1, d2, d3, d4, d5, d6, d7, d8, d9⟩ := Box.cells (s := s) HE3.out
    have XV := Aside0.mk (show EdV w3 P0 s (.agg #[.string s.text, .int .i64 s.pos, .int .i64 s.mark, .slice Ak s.kills.length ck, .slice Au s.undo.length cu, .slice Ar s.redo.length cr, .string s.keys, .int .i64 s.last, .int .i64 s.line, .string s.saved]) from ⟨_, _, _, _, _, _, rfl, M1.out, M2.out, M3.out⟩)
    go_upto_region 16 with (first | (go_at_call 46; refine (rcut_calls w3 P0 s i j a _ XV.out HOK.out hm hi0 q2 q3 hj).mono ?_; rintro e w4 ⟨v4, rfl, hv4, hb⟩; have hbl := below_step HB3.out hb; have hszr := HB3.out.size; have hv5 : EdV w4 (fun k => P0 k ∨ w1.heap.size ≤ k) S v4 := (by rw [HS.out]; exact hv4.mono (fun k hk => hk.elim .inl (fun h => .inr (Nat.le_trans hszr h)))); have HE4 := Aside0.mk (blk_below HE3.out hb); have HR4 := Aside0.mk (blk_below HR3.out hb); have HB4 := Aside0.mk (below_step HB1.out hbl); have VY := Aside0.mk (Kd.V_below VY3.out hb); have hqe := blk_frozen HE4.out; clear d0 d1 d2 d3 d4 d5 d6 d7 d8 d9 HE3d; obtain ⟨d0, d1, d2, d3, d4, d5, d6, d7, d8, d9⟩ := ten_cells HE4.out; obtain ⟨Ak4, Au4, Ar4, ck4, cu4, cr4, rfl, g1, g2, g3⟩ := hv5.opn; have G1 := Aside0.mk g1; have G2 := Aside0.mk g2; have G3 := Aside0.mk g3; clear hv4 hv5 hb hbl g1 g2 g3 hszr))
    obtain ⟨wx, hwx⟩ : ∃ z, z = (((((((((((w4.setCell ⟨w.heap.size, 0, none⟩ (.string S.text)).setCell ⟨w.heap.size, 1, none⟩ (.int .i64 S.pos)).setCell ⟨w.heap.size, 2, none⟩ (.int .i64 S.mark)).setCell ⟨w.heap.size, 3, none⟩ (.slice Ak4 S.kills.length ck4)).setCell ⟨w.heap.size, 4, none⟩ (.slice Au4 S.undo.length cu4)).setCell ⟨w.heap.size, 5, none⟩ (.slice Ar4 S.redo.length cr4)).setCell ⟨w.heap.size, 6, none⟩ (.string S.keys)).setCell ⟨w.heap.size, 7, none⟩ (.int .i64 S.last)).setCell ⟨w.heap.size, 8, none⟩ (.int .i64 S.line)).setCell ⟨w.heap.size, 9, none⟩ (.string S.saved)).setCell ⟨w.heap.size, 3, none⟩ (.slice (some ⟨gk, 0, none⟩) s.kills.length c2)) := ⟨_, rfl⟩
    have HEX := Aside0.mk (show wx.heap[w.heap.size]? = some (.cells #[.string S.text, .int .i64 S.pos, .int .i64 S.mark, .slice (some ⟨gk, 0, none⟩) s.kills.length c2, .slice Au4 S.undo.length cu4, .slice Ar4 S.redo.length cr4, .string S.keys, .int .i64 S.last, .int .i64 S.line, .string S.saved] 27 (0, 0)) from by rw [hwx]; exact (blk_put (cs' := #[.string S.text, .int .i64 S.pos, .int .i64 S.mark, .slice (some ⟨gk, 0, none⟩) s.kills.length c2, .slice Au4 S.undo.length cu4, .slice Ar4 S.redo.length cr4, .string S.keys, .int .i64 S.last, .int .i64 S.line, .string S.saved]) (fillW_blk HE4.out) 3 (.slice (some ⟨gk, 0, none⟩) s.kills.length c2) rfl))
    have HRX := Aside0.mk (show wx.heap[w.heap.size + 1]? = some (.cells #[.string ⟨#[]⟩, .int .i64 0, .int .i64 0, .slice none 0 0, .slice none 0 0, .slice none 0 0, .string ⟨#[]⟩, .int .i64 0, .int .i64 0, .string ⟨#[]⟩] 27 (0, 0)) from by rw [hwx]; exact (blk_far (fillW_far HR4.out (by simp)) (p := ⟨w.heap.size, 3, none⟩) (by simp) _))
    have HBX := Aside0.mk (show Below w.heap.size w wx from by rw [hwx]; exact (below_set (fillW_below HB4.out (Nat.le_refl _)) (Nat.le_refl _)))
    have X1 := Aside0.mk (show Kd.V Kd.string 9 wx 0 PN _ _ from by rw [hwx]; exact (Kd.V_far (fillW_V VY.out (fun k hk => by have := HPN.out k hk; omega)) (p := ⟨w.heap.size, 3, none⟩) (fun k hk => by have := HPN.out k hk; simp; omega) _))
    have X2 := Aside0.mk (show Kd.V k23 23 wx 0 PN _ _ from by rw [hwx]; exact (Kd.V_far (fillW_V (Kd.V_mono G2.out HQN.out) (fun k hk => by have := HPN.out k hk; omega)) (p := ⟨w.heap.size, 3, none⟩) (fun k hk => by have := HPN.out k hk; simp; omega) _))
    have X3 := Aside0.mk (show Kd.V k23 23 wx 0 PN _ _ from by rw [hwx]; exact (Kd.V_far (fillW_V (Kd.V_mono G3.out HQN.out) (fun k hk => by have := HPN.out k hk; omega)) (p := ⟨w.heap.size, 3, none⟩) (fun k hk => by have := HPN.out k hk; simp; omega) _))
    have HWX := Aside0.mk hwx
    clear hwx
    go_upto_region 17 with (fail)
    rw [← HWX.out]
    clear hqe d0 d1 d2 d3 d4 d5 d6 d7 d8 d9
    obtain ⟨d0, d1, d2, d3, d4, d5, d6, d7, d8, d9⟩ := ten_cells HEX.out
    have hqr := blk_frozen HRX.out
    obtain ⟨r0, r1, r2, r3, r4, r5, r6, r7, r8, r9⟩ := ten_cells HRX.out
    go_wp2_with (fail)
    obtain ⟨y1, y2, y3⟩ := put_edVn (w := w) (W := wx) (s := { S with kills := y }) (rb := w.heap.size + 1) s.kills.length HYL.out.symm X1.out X2.out X3.out (fun k hk => by have := HPN.out k hk; omega) HRX.out HBX.out (by omega)
    refine bodyPost_ret (results_cell_row rfl _ _ (w.heap.size + 1) 27 _ (0, 0) _ rfl y1 hu27 rfl (by first | rfl | decide)) rfl ?_
    exact ⟨_, rfl, y2.mono HPQ.out, y3⟩
set_option maxHeartbeats 16000000 in
set_option maxRecDepth 100000 in
theorem rkill_back (w : World) (P : Nat → Prop) (s : St) (a i j : Int) (v : Value) (hv : EdV w P s v) (ok : OkS s) (hm : s.mark ≤ s.text.size) (hk16 : s.kills.length ≤ 16) (hi0 : 0 ≤ i) (hij : i < j) (hj : j ≤ s.text.size) (ha : ¬ (a = 12 ∨ a = 14)) (hjn : joins s (s.text.extract i.toNat j.toNat) = true) :
    Calls Try.prog 47 #[v, .int .i64 i, .int .i64 j, .int .i64 a] w fun e w' => ∃ v', e = .returned v' ∧ EdV w' (fun k => P k ∨ w.heap.size ≤ k) (killS s a i j) v' ∧ Below w.heap.size w w' := by
  have hvo := hv.old
  obtain ⟨P0, hP0⟩ : ∃ Q : Nat → Prop, Q = fun k => P k ∧ k < w.heap.size := ⟨_, rfl⟩
  rw [← hP0] at hvo
  have hp1 : ∀ k, P0 k → P k ∧ k < w.heap.size := by intro k hk; rw [hP0] at hk; exact hk
  clear hP0
  obtain ⟨Ak, Au, Ar, ck, cu, cr, rfl, v1, v2, v3⟩ := hvo
  have hu27 := Try.underlying27
  have hu23 := Try.underlying23
  obtain ⟨w1, hw1⟩ : ∃ z, z = (w.alloc (.cells #[.string s.text, .int .i64 s.pos, .int .i64 s.mark, .slice Ak s.kills.length ck, .slice Au s.undo.length cu, .slice Ar s.redo.length cr, .string s.keys, .int .i64 s.last, .int .i64 s.line, .string s.saved] 27)).alloc (.cells #[.string ⟨#[]⟩, .int .i64 0, .int .i64 0, .slice none 0 0, .slice none 0 0, .slice none 0 0, .string ⟨#[]⟩, .int .i64 0, .int .i64 0, .string ⟨#[]⟩] 27) := ⟨_, rfl⟩
  obtain ⟨b1, b2, b3, b4⟩ := box2 w #[.string s.text, .int .i64 s.pos, .int .i64 s.mark, .slice Ak s.kills.length ck, .slice Au s.undo.length cu, .slice Ar s.redo.length cr, .string s.keys, .int .i64 s.last, .int .i64 s.line, .string s.saved] #[.string ⟨#[]⟩, .int .i64 0, .int .i64 0, .slice none 0 0, .slice none 0 0, .slice none 0 0, .string ⟨#[]⟩, .int .i64 0, .int .i64 0, .string ⟨#[]⟩] 27 27
  rw [← hw1] at b1 b2 b3 b4
  have HE := Aside0.mk b1
  have HR := Aside0.mk b2
  have HB1 := Aside0.mk b3
  have HSZ := Aside0.mk b4
  have HP1 := Aside0.mk hp1
  have HW1 := Aside0.mk hw1
  have HV := Aside0.mk (show EdV w1 P0 s (edV s (.slice Ak s.kills.length ck) (.slice Au s.undo.length cu) (.slice Ar s.redo.length cr)) from ⟨Ak, Au, Ar, ck, cu, cr, rfl, Kd.V_below v1 b3, Kd.V_below v2 b3, Kd.V_below v3 b3⟩)
  have K1 := Aside0.mk (Kd.V_below v1 b3)
  have K2 := Aside0.mk (Kd.V_below v2 b3)
  have K3 := Aside0.mk (Kd.V_below v3 b3)
  unfold edV at HV hv ⊢
  obtain ⟨d0, d1, d2, d3, d4, d5, d6, d7, d8, d9⟩ := Box.cells (s := s) b1
  clear hv v1 v2 v3 hw1 b1 b2 b3 b4 hp1
  clear d0 d1 d2 d3 d4 d5 d6 d7 d8 d9
  have hs := ok.text
  have hks := ok.each
  have HOK := Aside0.mk ok
  clear ok
  have q0 : (i == j) = false := beq_eq_false_iff_ne.mpr (by omega)
  have q1 : i ≤ j := by omega
  have q2 : i ≤ (s.text.size : Int) := by omega
  have q3 : 0 ≤ j := by omega
  have H16 := Aside0.mk hk16
  obtain ⟨S, hS⟩ : ∃ z, z = (setS s a (s.text.extract 0 i.toNat ++ s.text.extract j.toNat s.text.size) i).1 := ⟨_, rfl⟩
  rw [kill_at s a i j hij, ← hS]
  have HS := Aside0.mk hS
  obtain ⟨x, hx⟩ : ∃ z, z = s.text.extract i.toNat j.toNat := ⟨_, rfl⟩
  rw [← hx] at hjn ⊢
  have hxs : x.size = j.toNat - i.toNat := by rw [hx, ByteArray.size_extract]; omega
  have hxe : s.text.extract i.toNat j.toNat = x := hx.symm
  obtain ⟨PN, hPN⟩ : ∃ Q : Nat → Prop, Q = fun k => P0 k ∨ w1.heap.size ≤ k := ⟨_, rfl⟩
  have HPN := Aside0.mk (show ∀ k, PN k → k ≠ w.heap.size ∧ k ≠ w.heap.size + 1 from by intro k hk; rw [hPN] at hk; have h1 := HP1.out k; have h2 := HSZ.out; rcases hk with hk | hk; exact (by have := (h1 hk).2; omega); exact (by omega))
  have HPQ := Aside0.mk (show ∀ k, PN k → (P k ∨ w.heap.size ≤ k) from by intro k hk; rw [hPN] at hk; have h2 := HSZ.out; rcases hk with hk | hk; exact .inl (HP1.out k hk).1; exact .inr (by omega))
  have HNQ := Aside0.mk (show ∀ k, w1.heap.size ≤ k → PN k from by intro k hk; rw [hPN]; exact .inr hk)
  have HQN := Aside0.mk (show ∀ k, (P0 k ∨ w1.heap.size ≤ k) → PN k from by intro k hk; rw [hPN]; exact hk)
  have HLT := Aside0.mk (show ∀ k, P0 k → k < w1.heap.size from by intro k hk; have := (HP1.out k hk).2; have := HSZ.out; omega)
  have H12 := Aside0.mk (show w.heap.size ≤ w1.heap.size from by have := HSZ.out; omega)
  clear hS hx hPN hk16
  rw [killed_join s a x hjn, if_neg ha]
  unfold joins at hjn
  simp only [Bool.and_eq_true, Bool.not_eq_true', List.isEmpty_eq_false_iff, decide_eq_true_eq] at hjn
  obtain ⟨⟨k1, k2⟩, k3⟩ := hjn
  have hkp : 0 < s.kills.length := List.length_pos_iff.mpr k2
  obtain ⟨lst, hlst⟩ : ∃ z, z = lastOf s.kills := ⟨_, rfl⟩
  rw [← hlst] at k3 ⊢
  have HL := Aside0.mk hlst
  have hlz : lst.size ≤ 4096 := by omega
  have hxz : x.size ≤ 4096 := by omega
  obtain ⟨y, hy⟩ : ∃ z, z = s.kills.set (s.kills.length - 1) (lst ++ x) := ⟨_, rfl⟩
  rw [← hy]
  have HY := Aside0.mk hy
  have HYL := Aside0.mk (show y.length = s.kills.length from by rw [hy, List.length_set])
  have h16 := H16.out
  have b1 : IntKind.i64.wrap ((s.kills.length : Int) - 1) = (s.kills.length : Int) - 1 := by rw [IntKind.wrap_i64]; omega
  have n1 : 0 ≤ (s.kills.length : Int) - 1 := by omega
  have n2 : (s.kills.length : Int) - 1 < (s.kills.length : Int) := by omega
  have k4 : decide ((lst.size : Int) + (x.size : Int) ≤ 4096) = true := decide_eq_true (by omega)
  have k5 : decide (lst.size + x.size ≤ 4096) = true := decide_eq_true (by omega)
  have k6 : decide (16 < s.kills.length) = false := decide_eq_false (by have := H16.out; omega)
  have k7 : decide (16 < (s.kills.length : Int)) = false := decide_eq_false (by have := H16.out; omega)
  have k8 : (9223372036854775807 < lst.size + x.size) = False := eq_false (by omega)
  have k9 : decide (0 < s.kills.length) = true := decide_eq_true hkp
  have k0 : decide (0 < (s.kills.length : Int)) = true := decide_eq_true (by omega)
  have HK1 := Aside0.mk k1
  have a1 : (a == 12) = false := beq_eq_false_iff_ne.mpr (fun h => ha (.inl h))
  have a2 : (a == 14) = false := beq_eq_false_iff_ne.mpr (fun h => ha (.inr h))
  clear ha
  clear hxs h16 k1 k2 k3 hlst hy hij hks
  go_enter Try.func47, Try.ntmps47
  go_upto_region 1 with (fail)
  rw [← HW1.out]
  obtain ⟨d0, d1, d2, d3, d4, d5, d6, d7, d8, d9⟩ := Box.cells (s := s) HE.out
  go_upto_region 7 with (first | ((with_reducible refine gate_builtin (b := .append) (xs := #[.tmp 23, .tmp 25]) rfl ?_); at_builtin; refine Kd.R_append_rows Kd.string (w0 := w1) w1.heap.size rfl (.tmp 23) (.tmp 25) 24 9 (.string ⟨#[]⟩) 16 rfl Try.underlying24 info9 rfl (by decide) (by omega) (.slice none 0 0) ([] : List ByteArray) s.kills Ak s.kills.length ck (fun _ => True) (fun _ => False) rfl rfl ?aO ?aR (fun _ _ h => h) (fun _ h => h.elim) (fun _ _ => trivial) ?aB ?aS ?aL ?_; (case aR => exact (Kd.V_reads' K1.out).2.2); (case aO => exact Kd.R_nil _ _ _ _ _); (case aB => exact Below.refl _ _); (case aS => exact Nat.le_refl _); (case aL => (have := H16.out; simp only [List.length_nil]; omega)); intro v2 w2 ho2 hb2 hg2 hat2; rw [List.nil_append] at ho2; obtain ⟨gk, c2, rfl, hgk1, hgk2, _⟩ := Kd.R_form ho2 hkp; obtain ⟨lc, lf⟩ := last_cell ho2 hkp; rw [← HL.out] at lc; have HGK := Aside0.mk hgk1; clear hgk1 hgk2; have R2 := Aside0.mk ho2; have HE2 := Aside0.mk (blk_grown HE.out hg2 (by simp [Value.ownBlock])); have HR2 := Aside0.mk (blk_grown HR.out hg2 (by simp [Value.ownBlock])); have J1 := Aside0.mk (Kd.V_grown K1.out hg2 (fun k hk => by simp [Value.ownBlock])); have J2 := Aside0.mk (Kd.V_grown K2.out hg2 (fun k hk => by simp [Value.ownBlock])); have J3 := Aside0.mk (Kd.V_grown K3.out hg2 (fun k hk => by simp [Value.ownBlock])); have HB2 := Aside0.mk hb2; have d7 := (blk_cell HE2.out 7).trans rfl; clear ho2 hb2 hg2 hat2))
  clear d0 d1 d2 d3 d4 d5 d6 d8 d9
  go_upto_region 13 with (first | (go_at_call 64; refine (rkills_calls s.last true _ HK1.out).mono ?_; rintro e w' ⟨rfl, rfl⟩))
  obtain ⟨w3, hw3⟩ : ∃ z, z = w2.setCell ⟨gk, s.kills.length - 1, none⟩ (.string (lst ++ x)) := ⟨_, rfl⟩
  have hgk0 := HGK.out
  have e0 : ((s.kills.length : Int) - 1).toNat = s.kills.length - 1 := by omega
  have r3 := (Kd.R_putg R2.out ((s.kills.length : Int) - 1) (lst ++ x)).1
  rw [e0, ← HY.out] at r3
  have R3 := Aside0.mk (show Kd.R Kd.string 9 w3 w1.heap.size (fun _ => True) (.slice (some ⟨gk, 0, none⟩) s.kills.length c2) y from by rw [hw3]; exact r3)
  have ne1 : w.heap.size ≠ gk := by have := HSZ.out; omega
  have ne2 : w.heap.size + 1 ≠ gk := by have := HSZ.out; omega
  have HE3 := Aside0.mk (show w3.heap[w.heap.size]? = some (.cells #[.string s.text, .int .i64 s.pos, .int .i64 s.mark, .slice Ak s.kills.length ck, .slice Au s.undo.length cu, .slice Ar s.redo.length cr, .string s.keys, .int .i64 s.last, .int .i64 s.line, .string s.saved] 27 (0, 0)) from by rw [hw3]; exact blk_far HE2.out (p := ⟨gk, _, none⟩) ne1 _)
  have HR3 := Aside0.mk (show w3.heap[w.heap.size + 1]? = some (.cells #[.string ⟨#[]⟩, .int .i64 0, .int .i64 0, .slice none 0 0, .slice none 0 0, .slice none 0 0, .string ⟨#[]⟩, .int .i64 0, .int .i64 0, .string ⟨#[]⟩] 27 (0, 0)) from by rw [hw3]; exact blk_far HR2.out (p := ⟨gk, _, none⟩) ne2 _)
  have M1 := Aside0.mk (show Kd.V Kd.string 9 w3 0 P0 _ _ from by rw [hw3]; exact Kd.V_far J1.out (p := ⟨gk, _, none⟩) (fun k hk => by have := HLT.out k hk; simp; omega) _)
  have M2 := Aside0.mk (show Kd.V k23 23 w3 0 P0 _ _ from by rw [hw3]; exact Kd.V_far J2.out (p := ⟨gk, _, none⟩) (fun k hk => by have := HLT.out k hk; simp; omega) _)
  have M3 := Aside0.mk (show Kd.V k23 23 w3 0 P0 _ _ from by rw [hw3]; exact Kd.V_far J3.out (p := ⟨gk, _, none⟩) (fun k hk => by have := HLT.out k hk; simp; omega) _)
  have HB3 := Aside0.mk (show Below w1.heap.size w1 w3 from by rw [hw3]; exact below_set HB2.out HGK.out)
  have VY3 := Aside0.mk (Kd.V_mono (Kd.R_V (base' := 0) (Kd.R_bound R3.out)) (fun k hk => HNQ.out k hk.2.1))
  have HW3 := Aside0.mk hw3
  clear hw3 hgk0 e0 r3 ne1 ne2 lc lf d7
  rw [← HW3.out]
  have HE3d := blk_frozen HE3.out
  obtain ⟨d0, d1, d2, d3, d4, d5, d6, d7, d8, d9⟩ := Box.cells (s := s) HE3.out
  have XV := Aside0.mk (show EdV w3 P0 s (.agg #[.string s.text, .int .i64 s.pos, .int .i64 s.mark, .slice Ak s.kills.length ck, .slice Au s.undo.length cu, .slice Ar s.redo.length cr, .string s.keys, .int .i64 s.last, .int .i64 s.line, .string s.saved]) from ⟨_, _, _, _, _, _, rfl, M1.out, M2.out, M3.out⟩)
  go_upto_region 16 with (first | (go_at_call 46; refine (rcut_calls w3 P0 s i j a _ XV.out HOK.out hm hi0 q2 q3 hj).mono ?_; rintro e w4 ⟨v4, rfl, hv4, hb⟩; have hbl := below_step HB3.out hb; have hszr := HB3.out.size; have hv5 : EdV w4 (fun k => P0 k ∨ w1.heap.size ≤ k) S v4 := (by rw [HS.out]; exact hv4.mono (fun k hk => hk.elim .inl (fun h => .inr (Nat.le_trans hszr h)))); have HE4 := Aside0.mk (blk_below HE3.out hb); have HR4 := Aside0.mk (blk_below HR3.out hb); have HB4 := Aside0.mk (below_step HB1.out hbl); have VY := Aside0.mk (Kd.V_below VY3.out hb); have hqe := blk_frozen HE4.out; clear d0 d1 d2 d3 d4 d5 d6 d7 d8 d9 HE3d; obtain ⟨d0, d1, d2, d3, d4, d5, d6, d7, d8, d9⟩ := ten_cells HE4.out; obtain ⟨Ak4, Au4, Ar4, ck4, cu4, cr4, rfl, g1, g2, g3⟩ := hv5.opn; have G1 := Aside0.mk g1; have G2 := Aside0.mk g2; have G3 := Aside0.mk g3; clear hv4 hv5 hb hbl g1 g2 g3 hszr))
  obtain ⟨wx, hwx⟩ : ∃ z, z = (((((((((((w4.setCell ⟨w.heap.size, 0, none⟩ (.string S.text)).setCell ⟨w.heap.size, 1, none⟩ (.int .i64 S.pos)).setCell ⟨w.heap.size, 2, none⟩ (.int .i64 S.mark)).setCell ⟨w.heap.size, 3, none⟩ (.slice Ak4 S.kills.length ck4)).setCell ⟨w.heap.size, 4, none⟩ (.slice Au4 S.undo.length cu4)).setCell ⟨w.heap.size, 5, none⟩ (.slice Ar4 S.redo.length cr4)).setCell ⟨w.heap.size, 6, none⟩ (.string S.keys)).setCell ⟨w.heap.size, 7, none⟩ (.int .i64 S.last)).setCell ⟨w.heap.size, 8, none⟩ (.int .i64 S.line)).setCell ⟨w.heap.size, 9, none⟩ (.string S.saved)).setCell ⟨w.heap.size, 3, none⟩ (.slice (some ⟨gk, 0, none⟩) s.kills.length c2)) := ⟨_, rfl⟩
  have HEX := Aside0.mk (show wx.heap[w.heap.size]? = some (.cells #[.string S.text, .int .i64 S.pos, .int .i64 S.mark, .slice (some ⟨gk, 0, none⟩) s.kills.length c2, .slice Au4 S.undo.length cu4, .slice Ar4 S.redo.length cr4, .string S.keys, .int .i64 S.last, .int .i64 S.line, .string S.saved] 27 (0, 0)) from by rw [hwx]; exact (blk_put (cs' := #[.string S.text, .int .i64 S.pos, .int .i64 S.mark, .slice (some ⟨gk, 0, none⟩) s.kills.length c2, .slice Au4 S.undo.length cu4, .slice Ar4 S.redo.length cr4, .string S.keys, .int .i64 S.last, .int .i64 S.line, .string S.saved]) (fillW_blk HE4.out) 3 (.slice (some ⟨gk, 0, none⟩) s.kills.length c2) rfl))
  have HRX := Aside0.mk (show wx.heap[w.heap.size + 1]? = some (.cells #[.string ⟨#[]⟩, .int .i64 0, .int .i64 0, .slice none 0 0, .slice none 0 0, .slice none 0 0, .string ⟨#[]⟩, .int .i64 0, .int .i64 0, .string ⟨#[]⟩] 27 (0, 0)) from by rw [hwx]; exact (blk_far (fillW_far HR4.out (by simp)) (p := ⟨w.heap.size, 3, none⟩) (by simp) _))
  have HBX := Aside0.mk (show Below w.heap.size w wx from by rw [hwx]; exact (below_set (fillW_below HB4.out (Nat.le_refl _)) (Nat.le_refl _)))
  have X1 := Aside0.mk (show Kd.V Kd.string 9 wx 0 PN _ _ from by rw [hwx]; exact (Kd.V_far (fillW_V VY.out (fun k hk => by have := HPN.out k hk; omega)) (p := ⟨w.heap.size, 3, none⟩) (fun k hk => by have := HPN.out k hk; simp; omega) _))
  have X2 := Aside0.mk (show Kd.V k23 23 wx 0 PN _ _ from by rw [hwx]; exact (Kd.V_far (fillW_V (Kd.V_mono G2.out HQN.out) (fun k hk => by have := HPN.out k hk; omega)) (p := ⟨w.heap.size, 3, none⟩) (fun k hk => by have := HPN.out k hk; simp; omega) _))
  have X3 := Aside0.mk (show Kd.V k23 23 wx 0 PN _ _ from by rw [hwx]; exact (Kd.V_far (fillW_V (Kd.V_mono G3.out HQN.out) (fun k hk => by have := HPN.out k hk; omega)) (p := ⟨w.heap.size, 3, none⟩) (fun k hk => by have := HPN.out k hk; simp; omega) _))
  have HWX := Aside0.mk hwx
  clear hwx
  go_upto_region 17 with (fail)
  rw [← HWX.out]
  clear hqe d0 d1 d2 d3 d4 d5 d6 d7 d8 d9
  obtain ⟨d0, d1, d2, d3, d4, d5, d6, d7, d8, d9⟩ := ten_cells HEX.out
  have hqr := blk_frozen HRX.out
  obtain ⟨r0, r1, r2, r3, r4, r5, r6, r7, r8, r9⟩ := ten_cells HRX.out
  go_wp2_with (fail)
  obtain ⟨y1, y2, y3⟩ := put_edVn (w := w) (W := wx) (s := { S with kills := y }) (rb := w.heap.size + 1) s.kills.length HYL.out.symm X1.out X2.out X3.out (fun k hk => by have := HPN.out k hk; omega) HRX.out HBX.out (by omega)
  refine bodyPost_ret (results_cell_row rfl _ _ (w.heap.size + 1) 27 _ (0, 0) _ rfl y1 hu27 rfl (by first | rfl | decide)) rfl ?_
  exact ⟨_, rfl, y2.mono HPQ.out, y3⟩
end Go.Proofs.Ytlbbjdggebgabaa.P
end

section
/- The reference's kill: a new element; kill whole. -/
namespace Go.Proofs.Ytlbbjdggebgabaa.P
open Go.RowKit Go.Proofs.YtlbbjdggebgabaaW.PrintWords Go.Proofs.YtlbbjdggebgabaaW.PrintLast Go.Proofs.YtlbbjdggebgabaaW.PrintMore
set_option linter.unusedVariables false
set_option linter.unusedSimpArgs false

set_option maxHeartbeats 16000000 in
set_option maxRecDepth 100000 in
theorem rkill_push_a (w : World) (P : Nat → Prop) (s : St) (a i j : Int) (v : Value) (hv : EdV w P s v) (ok : OkS s) (hm : s.mark ≤ s.text.size) (hk16 : s.kills.length ≤ 16) (hi0 : 0 ≤ i) (hij : i < j) (hj : j ≤ s.text.size) (hjn : joins s (s.text.extract i.toNat j.toNat) = false) (hw : killsB s.last = false) (hd : s.kills.length < 16) :
    Calls Try.prog 47 #[v, .int .i64 i, .int .i64 j, .int .i64 a] w fun e w' => ∃ v', e = .returned v' ∧ EdV w' (fun k => P k ∨ w.heap.size ≤ k) (killS s a i j) v' ∧ Below w.heap.size w w' := by
  have hvo := hv.old
  obtain ⟨P0, hP0⟩ : ∃ Q : Nat → Prop, Q = fun k => P k ∧ k < w.heap.size := ⟨_, rfl⟩
  rw [← hP0] at hvo
  have hp1 : ∀ k, P0 k → P k ∧ k < w.heap.size := by intro k hk; rw [hP0] at hk; exact hk
  clear hP0
  obtain ⟨Ak, Au, Ar, ck, cu, cr, rfl, v1, v2, v3⟩ := hvo
  have hu27 := Try.underlying27
  have hu23 := Try.underlying23
  obtain ⟨w1, hw1⟩ : ∃ z, z = (w.alloc (.cells #[.string s.text, .int .i64 s.pos, .int .i64 s.mark, .slice Ak s.kills.length ck, .slice Au s.undo.length cu, .slice Ar s.redo.length cr, .string s.keys, .int .i64 s.last, .int .i64 s.line, .string s.saved] 27)).alloc (.cells #[.string ⟨#[]⟩, .int .i64 0, .int .i64 0, .slice none 0 0, .slice none 0 0, .slice none 0 0, .string ⟨#[]⟩, .int .i64 0, .int .i64 0, .string ⟨#[]⟩] 27) := ⟨_, rfl⟩
  obtain ⟨b1, b2, b3, b4⟩ := box2 w #[.string s.text, .int .i64 s.pos, .int .i64 s.mark, .slice Ak s.kills.length ck, .slice Au s.undo.length cu, .slice Ar s.redo.length cr, .string s.keys, .int .i64 s.last, .int .i64 s.line, .string s.saved] #[.string ⟨#[]⟩, .int .i64 0, .int .i64 0, .slice none 0 0, .slice none 0 0, .slice none 0 0, .string ⟨#[]⟩, .int .i64 0, .int .i64 0, .string ⟨#[]⟩] 27 27
  rw [← hw1] at b1 b2 b3 b4
  have HE := Aside0.mk b1
  have HR := Aside0.mk b2
  have HB1 := Aside0.mk b3
  have HSZ := Aside0.mk b4
  have HP1 := Aside0.mk hp1
  have HW1 := Aside0.mk hw1
  have HV := Aside0.mk (show EdV w1 P0 s (edV s (.slice Ak s.kills.length ck) (.slice Au s.undo.length cu) (.slice Ar s.redo.length cr)) from ⟨Ak, Au, Ar, ck, cu, cr, rfl, Kd.V_below v1 b3, Kd.V_below v2 b3, Kd.V_below v3 b3⟩)
  have K1 := Aside0.mk (Kd.V_below v1 b3)
  have K2 := Aside0.mk (Kd.V_below v2 b3)
  have K3 := Aside0.mk (Kd.V_below v3 b3)
  unfold edV at HV hv ⊢
  obtain ⟨d0, d1, d2, d3, d4, d5, d6, d7, d8, d9⟩ := Box.cells (s := s) b1
  clear hv v1 v2 v3 hw1 b1 b2 b3 b4 hp1
  clear d0 d1 d2 d3 d4 d5 d6 d7 d8 d9
  have hs := ok.text
  have hks := ok.each
  have HOK := Aside0.mk ok
  clear ok
  have q0 : (i == j) = false := beq_eq_false_iff_ne.mpr (by omega)
  have q1 : i ≤ j := by omega
  have q2 : i ≤ (s.text.size : Int) := by omega
  have q3 : 0 ≤ j := by omega
  have H16 := Aside0.mk hk16
  obtain ⟨S, hS⟩ : ∃ z, z = (setS s a (s.text.extract 0 i.toNat ++ s.text.extract j.toNat s.text.size) i).1 := ⟨_, rfl⟩
  rw [kill_at s a i j hij, ← hS]
  have HS := Aside0.mk hS
  obtain ⟨x, hx⟩ : ∃ z, z = s.text.extract i.toNat j.toNat := ⟨_, rfl⟩
  rw [← hx] at hjn ⊢
  have hxs : x.size = j.toNat - i.toNat := by rw [hx, ByteArray.size_extract]; omega
  have hxe : s.text.extract i.toNat j.toNat = x := hx.symm
  obtain ⟨PN, hPN⟩ : ∃ Q : Nat → Prop, Q = fun k => P0 k ∨ w1.heap.size ≤ k := ⟨_, rfl⟩
  have HPN := Aside0.mk (show ∀ k, PN k → k ≠ w.heap.size ∧ k ≠ w.heap.size + 1 from by intro k hk; rw [hPN] at hk; have h1 := HP1.out k; have h2 := HSZ.out; rcases hk with hk | hk; exact (by have := (h1 hk).2; omega); exact (by omega))
  have HPQ := Aside0.mk (show ∀ k, PN k → (P k ∨ w.heap.size ≤ k) from by intro k hk; rw [hPN] at hk; have h2 := HSZ.out; rcases hk with hk | hk; exact .inl (HP1.out k hk).1; exact .inr (by omega))
  have HNQ := Aside0.mk (show ∀ k, w1.heap.size ≤ k → PN k from by intro k hk; rw [hPN]; exact .inr hk)
  have HQN := Aside0.mk (show ∀ k, (P0 k ∨ w1.heap.size ≤ k) → PN k from by intro k hk; rw [hPN]; exact hk)
  have HLT := Aside0.mk (show ∀ k, P0 k → k < w1.heap.size from by intro k hk; have := (HP1.out k hk).2; have := HSZ.out; omega)
  have H12 := Aside0.mk (show w.heap.size ≤ w1.heap.size from by have := HSZ.out; omega)
  clear hS hx hPN hk16
  have hkd : killedS s a x = s.kills ++ [x] := by
    unfold killedS pushK
    rw [if_neg (by rw [hjn]; decide), if_neg (by rw [List.length_append, List.length_singleton]; omega)]
  rw [hkd]
  obtain ⟨y0, hy0⟩ : ∃ z, z = s.kills ++ [x] := ⟨_, rfl⟩
  have Y0 := Aside0.mk hy0
  have hl0 : y0.length = s.kills.length + 1 := by rw [hy0]; simp
  rw [← hy0]
  have k6 : decide (16 < y0.length) = false := decide_eq_false (by omega)
  have k7 : decide (16 < (y0.length : Int)) = false := decide_eq_false (by omega)
  have HK1 := Aside0.mk hw
  clear hw hxs hy0 hl0 hkd hjn hd hij hks
  go_enter Try.func47, Try.ntmps47
  go_upto_region 1 with (fail)
  rw [← HW1.out]
  obtain ⟨d0, d1, d2, d3, d4, d5, d6, d7, d8, d9⟩ := Box.cells (s := s) HE.out
  go_upto_region 7 with (first | ((with_reducible refine gate_builtin (b := .append) (xs := #[.tmp 23, .tmp 25]) rfl ?_); at_builtin; refine Kd.R_append_rows Kd.string (w0 := w1) w1.heap.size rfl (.tmp 23) (.tmp 25) 24 9 (.string ⟨#[]⟩) 16 rfl Try.underlying24 info9 rfl (by decide) (by omega) (.slice none 0 0) ([] : List ByteArray) s.kills Ak s.kills.length ck (fun _ => True) (fun _ => False) rfl rfl ?aO ?aR (fun _ _ h => h) (fun _ h => h.elim) (fun _ _ => trivial) ?aB ?aS ?aL ?_; (case aR => exact (Kd.V_reads' K1.out).2.2); (case aO => exact Kd.R_nil _ _ _ _ _); (case aB => exact Below.refl _ _); (case aS => exact Nat.le_refl _); (case aL => (have := H16.out; simp only [List.length_nil]; omega)); intro v2 w2 ho2 hb2 hg2 hat2; rw [List.nil_append] at ho2; obtain ⟨A2, c2, rfl⟩ := Kd.R_slice ho2; have R2 := Aside0.mk ho2; have HE2 := Aside0.mk (blk_grown HE.out hg2 (by simp [Value.ownBlock])); have HR2 := Aside0.mk (blk_grown HR.out hg2 (by simp [Value.ownBlock])); have J1 := Aside0.mk (Kd.V_grown K1.out hg2 (fun k hk => by simp [Value.ownBlock])); have J2 := Aside0.mk (Kd.V_grown K2.out hg2 (fun k hk => by simp [Value.ownBlock])); have J3 := Aside0.mk (Kd.V_grown K3.out hg2 (fun k hk => by simp [Value.ownBlock])); have HB2 := Aside0.mk hb2; have d7 := (blk_cell HE2.out 7).trans rfl; clear ho2 hb2 hg2 hat2))
  clear d0 d1 d2 d3 d4 d5 d6 d8 d9
  go_upto_region 13 with (first | (go_at_call 64; refine (rkills_calls s.last false _ HK1.out).mono ?_; rintro e w' ⟨rfl, rfl⟩) | ((with_reducible refine gate_builtin (b := .append) (xs := #[.tmp 80, .tmp 82]) rfl ?_); at_builtin; refine Kd.R_append Kd.string (w0 := w1) w1.heap.size rfl (.tmp 80) (.tmp 82) 24 9 (.string ⟨#[]⟩) 16 rfl Try.underlying24 info9 rfl (by decide) (by omega) (.slice A2 s.kills.length c2) s.kills x [.string x] (fun _ => True) (fun _ => False) rfl rfl ?aP (fun _ hk => hk.elim) (fun _ _ => trivial) ?aO ?aB ?aS ?aL ?_; (case aP => exact rfl); (case aO => exact R2.out); (case aB => exact HB2.out); (case aS => exact HB2.out.size); (case aL => (have := H16.out; omega)); intro v3 w3 ho3 hb3 hg3 hat3; rw [← Y0.out] at ho3; obtain ⟨A3, c3, rfl⟩ := Kd.R_slice ho3; have R3 := Aside0.mk ho3; have HE3 := Aside0.mk (blk_grown HE2.out hg3 (Kd.R_ne R2.out HE2.out (by decide))); have HR3 := Aside0.mk (blk_grown HR2.out hg3 (Kd.R_ne R2.out HR2.out (by decide))); have M1 := Aside0.mk (Kd.V_grown J1.out hg3 (fun k hk h => by have h1 := Kd.R_base R2.out k h.symm; have h2 := HLT.out k hk; omega)); have M2 := Aside0.mk (Kd.V_grown J2.out hg3 (fun k hk h => by have h1 := Kd.R_base R2.out k h.symm; have h2 := HLT.out k hk; omega)); have M3 := Aside0.mk (Kd.V_grown J3.out hg3 (fun k hk h => by have h1 := Kd.R_base R2.out k h.symm; have h2 := HLT.out k hk; omega)); have HB3 := Aside0.mk hb3; clear ho3 hb3 hg3 hat3))
  clear d7
  have VY3 := Aside0.mk (Kd.V_mono (Kd.R_V (base' := 0) (Kd.R_bound R3.out)) (fun k hk => HNQ.out k hk.2.1))
  have HE3d := blk_frozen HE3.out
  obtain ⟨d0, d1, d2, d3, d4, d5, d6, d7, d8, d9⟩ := Box.cells (s := s) HE3.out
  have XV := Aside0.mk (show EdV w3 P0 s (.agg #[.string s.text, .int .i64 s.pos, .int .i64 s.mark, .slice Ak s.kills.length ck, .slice Au s.undo.length cu, .slice Ar s.redo.length cr, .string s.keys, .int .i64 s.last, .int .i64 s.line, .string s.saved]) from ⟨_, _, _, _, _, _, rfl, M1.out, M2.out, M3.out⟩)
  go_upto_region 16 with (first | (go_at_call 46; refine (rcut_calls w3 P0 s i j a _ XV.out HOK.out hm hi0 q2 q3 hj).mono ?_; rintro e w4 ⟨v4, rfl, hv4, hb⟩; have hbl := below_step HB3.out hb; have hszr := HB3.out.size; have hv5 : EdV w4 (fun k => P0 k ∨ w1.heap.size ≤ k) S v4 := (by rw [HS.out]; exact hv4.mono (fun k hk => hk.elim .inl (fun h => .inr (Nat.le_trans hszr h)))); have HE4 := Aside0.mk (blk_below HE3.out hb); have HR4 := Aside0.mk (blk_below HR3.out hb); have HB4 := Aside0.mk (below_step HB1.out hbl); have VY := Aside0.mk (Kd.V_below VY3.out hb); have hqe := blk_frozen HE4.out; clear d0 d1 d2 d3 d4 d5 d6 d7 d8 d9 HE3d; obtain ⟨d0, d1, d2, d3, d4, d5, d6, d7, d8, d9⟩ := ten_cells HE4.out; obtain ⟨Ak4, Au4, Ar4, ck4, cu4, cr4, rfl, g1, g2, g3⟩ := hv5.opn; have G1 := Aside0.mk g1; have G2 := Aside0.mk g2; have G3 := Aside0.mk g3; clear hv4 hv5 hb hbl g1 g2 g3 hszr))
  obtain ⟨wx, hwx⟩ : ∃ z, z = (((((((((((w4.setCell ⟨w.heap.size, 0, none⟩ (.string S.text)).setCell ⟨w.heap.size, 1, none⟩ (.int .i64 S.pos)).setCell ⟨w.heap.size, 2, none⟩ (.int .i64 S.mark)).setCell ⟨w.heap.size, 3, none⟩ (.slice Ak4 S.kills.length ck4)).setCell ⟨w.heap.size, 4, none⟩ (.slice Au4 S.undo.length cu4)).setCell ⟨w.heap.size, 5, none⟩ (.slice Ar4 S.redo.length cr4)).setCell ⟨w.heap.size, 6, none⟩ (.string S.keys)).setCell ⟨w.heap.size, 7, none⟩ (.int .i64 S.last)).setCell ⟨w.heap.size, 8, none⟩ (.int .i64 S.line)).setCell ⟨w.heap.size, 9, none⟩ (.string S.saved)).setCell ⟨w.heap.size, 3, none⟩ (.slice A3 y0.length c3)) := ⟨_, rfl⟩
  have HEX := Aside0.mk (show wx.heap[w.heap.size]? = some (.cells #[.string S.text, .int .i64 S.pos, .int .i64 S.mark, .slice A3 y0.length c3, .slice Au4 S.undo.length cu4, .slice Ar4 S.redo.length cr4, .string S.keys, .int .i64 S.last, .int .i64 S.line, .string S.saved] 27 (0, 0)) from by rw [hwx]; exact (blk_put (cs' := #[.string S.text, .int .i64 S.pos, .int .i64 S.mark, .slice A3 y0.length c3, .slice Au4 S.undo.length cu4, .slice Ar4 S.redo.length cr4, .string S.keys, .int .i64 S.last, .int .i64 S.line, .string S.saved]) (fillW_blk HE4.out) 3 (.slice A3 y0.length c3) rfl))
  have HRX := Aside0.mk (show wx.heap[w.heap.size + 1]? = some (.cells #[.string ⟨#[]⟩, .int .i64 0, .int .i64 0, .slice none 0 0, .slice none 0 0, .slice none 0 0, .string ⟨#[]⟩, .int .i64 0, .int .i64 0, .string ⟨#[]⟩] 27 (0, 0)) from by rw [hwx]; exact (blk_far (fillW_far HR4.out (by simp)) (p := ⟨w.heap.size, 3, none⟩) (by simp) _))
  have HBX := Aside0.mk (show Below w.heap.size w wx from by rw [hwx]; exact (below_set (fillW_below HB4.out (Nat.le_refl _)) (Nat.le_refl _)))
  have X1 := Aside0.mk (show Kd.V Kd.string 9 wx 0 PN _ _ from by rw [hwx]; exact (Kd.V_far (fillW_V VY.out (fun k hk => by have := HPN.out k hk; omega)) (p := ⟨w.heap.size, 3, none⟩) (fun k hk => by have := HPN.out k hk; simp; omega) _))
  have X2 := Aside0.mk (show Kd.V k23 23 wx 0 PN _ _ from by rw [hwx]; exact (Kd.V_far (fillW_V (Kd.V_mono G2.out HQN.out) (fun k hk => by have := HPN.out k hk; omega)) (p := ⟨w.heap.size, 3, none⟩) (fun k hk => by have := HPN.out k hk; simp; omega) _))
  have X3 := Aside0.mk (show Kd.V k23 23 wx 0 PN _ _ from by rw [hwx]; exact (Kd.V_far (fillW_V (Kd.V_mono G3.out HQN.out) (fun k hk => by have := HPN.out k hk; omega)) (p := ⟨w.heap.size, 3, none⟩) (fun k hk => by have := HPN.out k hk; simp; omega) _))
  have HWX := Aside0.mk hwx
  clear hwx
  go_upto_region 17 with (fail)
  rw [← HWX.out]
  clear hqe d0 d1 d2 d3 d4 d5 d6 d7 d8 d9
  obtain ⟨d0, d1, d2, d3, d4, d5, d6, d7, d8, d9⟩ := ten_cells HEX.out
  have hqr := blk_frozen HRX.out
  obtain ⟨r0, r1, r2, r3, r4, r5, r6, r7, r8, r9⟩ := ten_cells HRX.out
  go_wp2_with (fail)
  obtain ⟨y1, y2, y3⟩ := put_edV (w := w) (W := wx) (s := { S with kills := y0 }) (rb := w.heap.size + 1) X1.out X2.out X3.out (fun k hk => by have := HPN.out k hk; omega) HRX.out HBX.out (by omega)
  refine bodyPost_ret (results_cell_row rfl _ _ (w.heap.size + 1) 27 _ (0, 0) _ rfl y1 hu27 rfl (by first | rfl | decide)) rfl ?_
  exact ⟨_, rfl, y2.mono HPQ.out, y3⟩
set_option maxHeartbeats 16000000 in
set_option maxRecDepth 100000 in
theorem rkill_push_b (w : World) (P : Nat → Prop) (s : St) (a i j : Int) (v : Value) (hv : EdV w P s v) (ok : OkS s) (hm : s.mark ≤ s.text.size) (hk16 : s.kills.length ≤ 16) (hi0 : 0 ≤ i) (hij : i < j) (hj : j ≤ s.text.size) (hjn : joins s (s.text.extract i.toNat j.toNat) = false) (hw : killsB s.last = true) (hw2 : s.kills = []) (hd : s.kills.length < 16) :
    Calls Try.prog 47 #[v, .int .i64 i, .int .i64 j, .int .i64 a] w fun e w' => ∃ v', e = .returned v' ∧ EdV w' (fun k => P k ∨ w.heap.size ≤ k) (killS s a i j) v' ∧ Below w.heap.size w w' := by
  have hvo := hv.old
  obtain ⟨P0, hP0⟩ : ∃ Q : Nat → Prop, Q = fun k => P k ∧ k < w.heap.size := ⟨_, rfl⟩
  rw [← hP0] at hvo
  have hp1 : ∀ k, P0 k → P k ∧ k < w.heap.size := by intro k hk; rw [hP0] at hk; exact hk
  clear hP0
  obtain ⟨Ak, Au, Ar, ck, cu, cr, rfl, v1, v2, v3⟩ := hvo
  have hu27 := Try.underlying27
  have hu23 := Try.underlying23
  obtain ⟨w1, hw1⟩ : ∃ z, z = (w.alloc (.cells #[.string s.text, .int .i64 s.pos, .int .i64 s.mark, .slice Ak s.kills.length ck, .slice Au s.undo.length cu, .slice Ar s.redo.length cr, .string s.keys, .int .i64 s.last, .int .i64 s.line, .string s.saved] 27)).alloc (.cells #[.string ⟨#[]⟩, .int .i64 0, .int .i64 0, .slice none 0 0, .slice none 0 0, .slice none 0 0, .string ⟨#[]⟩, .int .i64 0, .int .i64 0, .string ⟨#[]⟩] 27) := ⟨_, rfl⟩
  obtain ⟨b1, b2, b3, b4⟩ := box2 w #[.string s.text, .int .i64 s.pos, .int .i64 s.mark, .slice Ak s.kills.length ck, .slice Au s.undo.length cu, .slice Ar s.redo.length cr, .string s.keys, .int .i64 s.last, .int .i64 s.line, .string s.saved] #[.string ⟨#[]⟩, .int .i64 0, .int .i64 0, .slice none 0 0, .slice none 0 0, .slice none 0 0, .string ⟨#[]⟩, .int .i64 0, .int .i64 0, .string ⟨#[]⟩] 27 27
  rw [← hw1] at b1 b2 b3 b4
  have HE := Aside0.mk b1
  have HR := Aside0.mk b2
  have HB1 := Aside0.mk b3
  have HSZ := Aside0.mk b4
  have HP1 := Aside0.mk hp1
  have HW1 := Aside0.mk hw1
  have HV := Aside0.mk (show EdV w1 P0 s (edV s (.slice Ak s.kills.length ck) (.slice Au s.undo.length cu) (.slice Ar s.redo.length cr)) from ⟨Ak, Au, Ar, ck, cu, cr, rfl, Kd.V_below v1 b3, Kd.V_below v2 b3, Kd.V_below v3 b3⟩)
  have K1 := Aside0.mk (Kd.V_below v1 b3)
  have K2 := Aside0.mk (Kd.V_below v2 b3)
  have K3 := Aside0.mk (Kd.V_below v3 b3)
  unfold edV at HV hv ⊢
  obtain ⟨d0, d1, d2, d3, d4, d5, d6, d7, d8, d9⟩ := Box.cells (s := s) b1
  clear hv v1 v2 v3 hw1 b1 b2 b3 b4 hp1
  clear d0 d1 d2 d3 d4 d5 d6 d7 d8 d9
  have hs := ok.text
  have hks := ok.each
  have HOK := Aside0.mk ok
  clear ok
  have q0 : (i == j) = false := beq_eq_false_iff_ne.mpr (by omega)
  have q1 : i ≤ j := by omega
  have q2 : i ≤ (s.text.size : Int) := by omega
  have q3 : 0 ≤ j := by omega
  have H16 := Aside0.mk hk16
  obtain ⟨S, hS⟩ : ∃ z, z = (setS s a (s.text.extract 0 i.toNat ++ s.text.extract j.toNat s.text.size) i).1 := ⟨_, rfl⟩
  rw [kill_at s a i j hij, ← hS]
  have HS := Aside0.mk hS
  obtain ⟨x, hx⟩ : ∃ z, z = s.text.extract i.toNat j.toNat := ⟨_, rfl⟩
  rw [← hx] at hjn ⊢
  have hxs : x.size = j.toNat - i.toNat := by rw [hx, ByteArray.size_extract]; omega
  have hxe : s.text.extract i.toNat j.toNat = x := hx.symm
  obtain ⟨PN, hPN⟩ : ∃ Q : Nat → Prop, Q = fun k => P0 k ∨ w1.heap.size ≤ k := ⟨_, rfl⟩
  have HPN := Aside0.mk (show ∀ k, PN k → k ≠ w.heap.size ∧ k ≠ w.heap.size + 1 from by intro k hk; rw [hPN] at hk; have h1 := HP1.out k; have h2 := HSZ.out; rcases hk with hk | hk; exact (by have := (h1 hk).2; omega); exact (by omega))
  have HPQ := Aside0.mk (show ∀ k, PN k → (P k ∨ w.heap.size ≤ k) from by intro k hk; rw [hPN] at hk; have h2 := HSZ.out; rcases hk with hk | hk; exact .inl (HP1.out k hk).1; exact .inr (by omega))
  have HNQ := Aside0.mk (show ∀ k, w1.heap.size ≤ k → PN k from by intro k hk; rw [hPN]; exact .inr hk)
  have HQN := Aside0.mk (show ∀ k, (P0 k ∨ w1.heap.size ≤ k) → PN k from by intro k hk; rw [hPN]; exact hk)
  have HLT := Aside0.mk (show ∀ k, P0 k → k < w1.heap.size from by intro k hk; have := (HP1.out k hk).2; have := HSZ.out; omega)
  have H12 := Aside0.mk (show w.heap.size ≤ w1.heap.size from by have := HSZ.out; omega)
  clear hS hx hPN hk16
  have hkd : killedS s a x = s.kills ++ [x] := by
    unfold killedS pushK
    rw [if_neg (by rw [hjn]; decide), if_neg (by rw [List.length_append, List.length_singleton]; omega)]
  rw [hkd]
  obtain ⟨y0, hy0⟩ : ∃ z, z = s.kills ++ [x] := ⟨_, rfl⟩
  have Y0 := Aside0.mk hy0
  have hl0 : y0.length = s.kills.length + 1 := by rw [hy0]; simp
  rw [← hy0]
  have k6 : decide (16 < y0.length) = false := decide_eq_false (by omega)
  have k7 : decide (16 < (y0.length : Int)) = false := decide_eq_false (by omega)
  have hl1 : s.kills.length = 0 := by rw [hw2]; rfl
  have k9 : decide (0 < s.kills.length) = false := decide_eq_false (by omega)
  have k0 : decide (0 < (s.kills.length : Int)) = false := decide_eq_false (by omega)
  clear hl1 hw2
  have HK1 := Aside0.mk hw
  clear hw hxs hy0 hl0 hkd hjn hd hij hks
  go_enter Try.func47, Try.ntmps47
  go_upto_region 1 with (fail)
  rw [← HW1.out]
  obtain ⟨d0, d1, d2, d3, d4, d5, d6, d7, d8, d9⟩ := Box.cells (s := s) HE.out
  go_upto_region 7 with (first | ((with_reducible refine gate_builtin (b := .append) (xs := #[.tmp 23, .tmp 25]) rfl ?_); at_builtin; refine Kd.R_append_rows Kd.string (w0 := w1) w1.heap.size rfl (.tmp 23) (.tmp 25) 24 9 (.string ⟨#[]⟩) 16 rfl Try.underlying24 info9 rfl (by decide) (by omega) (.slice none 0 0) ([] : List ByteArray) s.kills Ak s.kills.length ck (fun _ => True) (fun _ => False) rfl rfl ?aO ?aR (fun _ _ h => h) (fun _ h => h.elim) (fun _ _ => trivial) ?aB ?aS ?aL ?_; (case aR => exact (Kd.V_reads' K1.out).2.2); (case aO => exact Kd.R_nil _ _ _ _ _); (case aB => exact Below.refl _ _); (case aS => exact Nat.le_refl _); (case aL => (have := H16.out; simp only [List.length_nil]; omega)); intro v2 w2 ho2 hb2 hg2 hat2; rw [List.nil_append] at ho2; obtain ⟨A2, c2, rfl⟩ := Kd.R_slice ho2; have R2 := Aside0.mk ho2; have HE2 := Aside0.mk (blk_grown HE.out hg2 (by simp [Value.ownBlock])); have HR2 := Aside0.mk (blk_grown HR.out hg2 (by simp [Value.ownBlock])); have J1 := Aside0.mk (Kd.V_grown K1.out hg2 (fun k hk => by simp [Value.ownBlock])); have J2 := Aside0.mk (Kd.V_grown K2.out hg2 (fun k hk => by simp [Value.ownBlock])); have J3 := Aside0.mk (Kd.V_grown K3.out hg2 (fun k hk => by simp [Value.ownBlock])); have HB2 := Aside0.mk hb2; have d7 := (blk_cell HE2.out 7).trans rfl; clear ho2 hb2 hg2 hat2))
  clear d0 d1 d2 d3 d4 d5 d6 d8 d9
  go_upto_region 13 with (first | (go_at_call 64; refine (rkills_calls s.last true _ HK1.out).mono ?_; rintro e w' ⟨rfl, rfl⟩) | ((with_reducible refine gate_builtin (b := .append) (xs := #[.tmp 80, .tmp 82]) rfl ?_); at_builtin; refine Kd.R_append Kd.string (w0 := w1) w1.heap.size rfl (.tmp 80) (.tmp 82) 24 9 (.string ⟨#[]⟩) 16 rfl Try.underlying24 info9 rfl (by decide) (by omega) (.slice A2 s.kills.length c2) s.kills x [.string x] (fun _ => True) (fun _ => False) rfl rfl ?aP (fun _ hk => hk.elim) (fun _ _ => trivial) ?aO ?aB ?aS ?aL ?_; (case aP => exact rfl); (case aO => exact R2.out); (case aB => exact HB2.out); (case aS => exact HB2.out.size); (case aL => (have := H16.out; omega)); intro v3 w3 ho3 hb3 hg3 hat3; rw [← Y0.out] at ho3; obtain ⟨A3, c3, rfl⟩ := Kd.R_slice ho3; have R3 := Aside0.mk ho3; have HE3 := Aside0.mk (blk_grown HE2.out hg3 (Kd.R_ne R2.out HE2.out (by decide))); have HR3 := Aside0.mk (blk_grown HR2.out hg3 (Kd.R_ne R2.out HR2.out (by decide))); have M1 := Aside0.mk (Kd.V_grown J1.out hg3 (fun k hk h => by have h1 := Kd.R_base R2.out k h.symm; have h2 := HLT.out k hk; omega)); have M2 := Aside0.mk (Kd.V_grown J2.out hg3 (fun k hk h => by have h1 := Kd.R_base R2.out k h.symm; have h2 := HLT.out k hk; omega)); have M3 := Aside0.mk (Kd.V_grown J3.out hg3 (fun k hk h => by have h1 := Kd.R_base R2.out k h.symm; have h2 := HLT.out k hk; omega)); have HB3 := Aside0.mk hb3; clear ho3 hb3 hg3 hat3))
  clear d7
  have VY3 := Aside0.mk (Kd.V_mono (Kd.R_V (base' := 0) (Kd.R_bound R3.out)) (fun k hk => HNQ.out k hk.2.1))
  have HE3d := blk_frozen HE3.out
  obtain ⟨d0, d1, d2, d3, d4, d5, d6, d7, d8, d9⟩ := Box.cells (s := s) HE3.out
  have XV := Aside0.mk (show EdV w3 P0 s (.agg #[.string s.text, .int .i64 s.pos, .int .i64 s.mark, .slice Ak s.kills.length ck, .slice Au s.undo.length cu, .slice Ar s.redo.length cr, .string s.keys, .int .i64 s.last, .int .i64 s.line, .string s.saved]) from ⟨_, _, _, _, _, _, rfl, M1.out, M2.out, M3.out⟩)
  go_upto_region 16 with (first | (go_at_call 46; refine (rcut_calls w3 P0 s i j a _ XV.out HOK.out hm hi0 q2 q3 hj).mono ?_; rintro e w4 ⟨v4, rfl, hv4, hb⟩; have hbl := below_step HB3.out hb; have hszr := HB3.out.size; have hv5 : EdV w4 (fun k => P0 k ∨ w1.heap.size ≤ k) S v4 := (by rw [HS.out]; exact hv4.mono (fun k hk => hk.elim .inl (fun h => .inr (Nat.le_trans hszr h)))); have HE4 := Aside0.mk (blk_below HE3.out hb); have HR4 := Aside0.mk (blk_below HR3.out hb); have HB4 := Aside0.mk (below_step HB1.out hbl); have VY := Aside0.mk (Kd.V_below VY3.out hb); have hqe := blk_frozen HE4.out; clear d0 d1 d2 d3 d4 d5 d6 d7 d8 d9 HE3d; obtain ⟨d0, d1, d2, d3, d4, d5, d6, d7, d8, d9⟩ := ten_cells HE4.out; obtain ⟨Ak4, Au4, Ar4, ck4, cu4, cr4, rfl, g1, g2, g3⟩ := hv5.opn; have G1 := Aside0.mk g1; have G2 := Aside0.mk g2; have G3 := Aside0.mk g3; clear hv4 hv5 hb hbl g1 g2 g3 hszr))
  obtain ⟨wx, hwx⟩ : ∃ z, z = (((((((((((w4.setCell ⟨w.heap.size, 0, none⟩ (.string S.text)).setCell ⟨w.heap.size, 1, none⟩ (.int .i64 S.pos)).setCell ⟨w.heap.size, 2, none⟩ (.int .i64 S.mark)).setCell ⟨w.heap.size, 3, none⟩ (.slice Ak4 S.kills.length ck4)).setCell ⟨w.heap.size, 4, none⟩ (.slice Au4 S.undo.length cu4)).setCell ⟨w.heap.size, 5, none⟩ (.slice Ar4 S.redo.length cr4)).setCell ⟨w.heap.size, 6, none⟩ (.string S.keys)).setCell ⟨w.heap.size, 7, none⟩ (.int .i64 S.last)).setCell ⟨w.heap.size, 8, none⟩ (.int .i64 S.line)).setCell ⟨w.heap.size, 9, none⟩ (.string S.saved)).setCell ⟨w.heap.size, 3, none⟩ (.slice A3 y0.length c3)) := ⟨_, rfl⟩
  have HEX := Aside0.mk (show wx.heap[w.heap.size]? = some (.cells #[.string S.text, .int .i64 S.pos, .int .i64 S.mark, .slice A3 y0.length c3, .slice Au4 S.undo.length cu4, .slice Ar4 S.redo.length cr4, .string S.keys, .int .i64 S.last, .int .i64 S.line, .string S.saved] 27 (0, 0)) from by rw [hwx]; exact (blk_put (cs' := #[.string S.text, .int .i64 S.pos, .int .i64 S.mark, .slice A3 y0.length c3, .slice Au4 S.undo.length cu4, .slice Ar4 S.redo.length cr4, .string S.keys, .int .i64 S.last, .int .i64 S.line, .string S.saved]) (fillW_blk HE4.out) 3 (.slice A3 y0.length c3) rfl))
  have HRX := Aside0.mk (show wx.heap[w.heap.size + 1]? = some (.cells #[.string ⟨#[]⟩, .int .i64 0, .int .i64 0, .slice none 0 0, .slice none 0 0, .slice none 0 0, .string ⟨#[]⟩, .int .i64 0, .int .i64 0, .string ⟨#[]⟩] 27 (0, 0)) from by rw [hwx]; exact (blk_far (fillW_far HR4.out (by simp)) (p := ⟨w.heap.size, 3, none⟩) (by simp) _))
  have HBX := Aside0.mk (show Below w.heap.size w wx from by rw [hwx]; exact (below_set (fillW_below HB4.out (Nat.le_refl _)) (Nat.le_refl _)))
  have X1 := Aside0.mk (show Kd.V Kd.string 9 wx 0 PN _ _ from by rw [hwx]; exact (Kd.V_far (fillW_V VY.out (fun k hk => by have := HPN.out k hk; omega)) (p := ⟨w.heap.size, 3, none⟩) (fun k hk => by have := HPN.out k hk; simp; omega) _))
  have X2 := Aside0.mk (show Kd.V k23 23 wx 0 PN _ _ from by rw [hwx]; exact (Kd.V_far (fillW_V (Kd.V_mono G2.out HQN.out) (fun k hk => by have := HPN.out k hk; omega)) (p := ⟨w.heap.size, 3, none⟩) (fun k hk => by have := HPN.out k hk; simp; omega) _))
  have X3 := Aside0.mk (show Kd.V k23 23 wx 0 PN _ _ from by rw [hwx]; exact (Kd.V_far (fillW_V (Kd.V_mono G3.out HQN.out) (fun k hk => by have := HPN.out k hk; omega)) (p := ⟨w.heap.size, 3, none⟩) (fun k hk => by have := HPN.out k hk; simp; omega) _))
  have HWX := Aside0.mk hwx
  clear hwx
  go_upto_region 17 with (fail)
  rw [← HWX.out]
  clear hqe d0 d1 d2 d3 d4 d5 d6 d7 d8 d9
  obtain ⟨d0, d1, d2, d3, d4, d5, d6, d7, d8, d9⟩ := ten_cells HEX.out
  have hqr := blk_frozen HRX.out
  obtain ⟨r0, r1, r2, r3, r4, r5, r6, r7, r8, r9⟩ := ten_cells HRX.out
  go_wp2_with (fail)
  obtain ⟨y1, y2, y3⟩ := put_edV (w := w) (W := wx) (s := { S with kills := y0 }) (rb := w.heap.size + 1) X1.out X2.out X3.out (fun k hk => by have := HPN.out k hk; omega) HRX.out HBX.out (by omega)
  refine bodyPost_ret (results_cell_row rfl _ _ (w.heap.size + 1) 27 _ (0, 0) _ rfl y1 hu27 rfl (by first | rfl | decide)) rfl ?_
  exact ⟨_, rfl, y2.mono HPQ.out, y3⟩
set_option maxHeartbeats 16000000 in
set_option maxRecDepth 100000 in
theorem rkill_push_c (w : World) (P : Nat → Prop) (s : St) (a i j : Int) (v : Value) (hv : EdV w P s v) (ok : OkS s) (hm : s.mark ≤ s.text.size) (hk16 : s.kills.length ≤ 16) (hi0 : 0 ≤ i) (hij : i < j) (hj : j ≤ s.text.size) (hjn : joins s (s.text.extract i.toNat j.toNat) = false) (hw : killsB s.last = true) (hw2 : 0 < s.kills.length) (hw3 : 4096 < ((lastOf s.kills).size : Int) + ((s.text.extract i.toNat j.toNat).size : Int)) (hd : s.kills.length < 16) :
    Calls Try.prog 47 #[v, .int .i64 i, .int .i64 j, .int .i64 a] w fun e w' => ∃ v', e = .returned v' ∧ EdV w' (fun k => P k ∨ w.heap.size ≤ k) (killS s a i j) v' ∧ Below w.heap.size w w' := by
  have hvo := hv.old
  obtain ⟨P0, hP0⟩ : ∃ Q : Nat → Prop, Q = fun k => P k ∧ k < w.heap.size := ⟨_, rfl⟩
  rw [← hP0] at hvo
  have hp1 : ∀ k, P0 k → P k ∧ k < w.heap.size := by intro k hk; rw [hP0] at hk; exact hk
  clear hP0
  obtain ⟨Ak, Au, Ar, ck, cu, cr, rfl, v1, v2, v3⟩ := hvo
  have hu27 := Try.underlying27
  have hu23 := Try.underlying23
  obtain ⟨w1, hw1⟩ : ∃ z, z = (w.alloc (.cells #[.string s.text, .int .i64 s.pos, .int .i64 s.mark, .slice Ak s.kills.length ck, .slice Au s.undo.length cu, .slice Ar s.redo.length cr, .string s.keys, .int .i64 s.last, .int .i64 s.line, .string s.saved] 27)).alloc (.cells #[.string ⟨#[]⟩, .int .i64 0, .int .i64 0, .slice none 0 0, .slice none 0 0, .slice none 0 0, .string ⟨#[]⟩, .int .i64 0, .int .i64 0, .string ⟨#[]⟩] 27) := ⟨_, rfl⟩
  obtain ⟨b1, b2, b3, b4⟩ := box2 w #[.string s.text, .int .i64 s.pos, .int .i64 s.mark, .slice Ak s.kills.length ck, .slice Au s.undo.length cu, .slice Ar s.redo.length cr, .string s.keys, .int .i64 s.last, .int .i64 s.line, .string s.saved] #[.string ⟨#[]⟩, .int .i64 0, .int .i64 0, .slice none 0 0, .slice none 0 0, .slice none 0 0, .string ⟨#[]⟩, .int .i64 0, .int .i64 0, .string ⟨#[]⟩] 27 27
  rw [← hw1] at b1 b2 b3 b4
  have HE := Aside0.mk b1
  have HR := Aside0.mk b2
  have HB1 := Aside0.mk b3
  have HSZ := Aside0.mk b4
  have HP1 := Aside0.mk hp1
  have HW1 := Aside0.mk hw1
  have HV := Aside0.mk (show EdV w1 P0 s (edV s (.slice Ak s.kills.length ck) (.slice Au s.undo.length cu) (.slice Ar s.redo.length cr)) from ⟨Ak, Au, Ar, ck, cu, cr, rfl, Kd.V_below v1 b3, Kd.V_below v2 b3, Kd.V_below v3 b3⟩)
  have K1 := Aside0.mk (Kd.V_below v1 b3)
  have K2 := Aside0.mk (Kd.V_below v2 b3)
  have K3 := Aside0.mk (Kd.V_below v3 b3)
  unfold edV at HV hv ⊢
  obtain ⟨d0, d1, d2, d3, d4, d5, d6, d7, d8, d9⟩ := Box.cells (s := s) b1
  clear hv v1 v2 v3 hw1 b1 b2 b3 b4 hp1
  clear d0 d1 d2 d3 d4 d5 d6 d7 d8 d9
  have hs := ok.text
  have hks := ok.each
  have HOK := Aside0.mk ok
  clear ok
  have q0 : (i == j) = false := beq_eq_false_iff_ne.mpr (by omega)
  have q1 : i ≤ j := by omega
  have q2 : i ≤ (s.text.size : Int) := by omega
  have q3 : 0 ≤ j := by omega
  have H16 := Aside0.mk hk16
  obtain ⟨S, hS⟩ : ∃ z, z = (setS s a (s.text.extract 0 i.toNat ++ s.text.extract j.toNat s.text.size) i).1 := ⟨_, rfl⟩
  rw [kill_at s a i j hij, ← hS]
  have HS := Aside0.mk hS
  obtain ⟨x, hx⟩ : ∃ z, z = s.text.extract i.toNat j.toNat := ⟨_, rfl⟩
  rw [← hx] at hjn ⊢
  rw [← hx] at hw3
  have hxs : x.size = j.toNat - i.toNat := by rw [hx, ByteArray.size_extract]; omega
  have hxe : s.text.extract i.toNat j.toNat = x := hx.symm
  obtain ⟨PN, hPN⟩ : ∃ Q : Nat → Prop, Q = fun k => P0 k ∨ w1.heap.size ≤ k := ⟨_, rfl⟩
  have HPN := Aside0.mk (show ∀ k, PN k → k ≠ w.heap.size ∧ k ≠ w.heap.size + 1 from by intro k hk; rw [hPN] at hk; have h1 := HP1.out k; have h2 := HSZ.out; rcases hk with hk | hk; exact (by have := (h1 hk).2; omega); exact (by omega))
  have HPQ := Aside0.mk (show ∀ k, PN k → (P k ∨ w.heap.size ≤ k) from by intro k hk; rw [hPN] at hk; have h2 := HSZ.out; rcases hk with hk | hk; exact .inl (HP1.out k hk).1; exact .inr (by omega))
  have HNQ := Aside0.mk (show ∀ k, w1.heap.size ≤ k → PN k from by intro k hk; rw [hPN]; exact .inr hk)
  have HQN := Aside0.mk (show ∀ k, (P0 k ∨ w1.heap.size ≤ k) → PN k from by intro k hk; rw [hPN]; exact hk)
  have HLT := Aside0.mk (show ∀ k, P0 k → k < w1.heap.size from by intro k hk; have := (HP1.out k hk).2; have := HSZ.out; omega)
  have H12 := Aside0.mk (show w.heap.size ≤ w1.heap.size from by have := HSZ.out; omega)
  clear hS hx hPN hk16
  have hkd : killedS s a x = s.kills ++ [x] := by
    unfold killedS pushK
    rw [if_neg (by rw [hjn]; decide), if_neg (by rw [List.length_append, List.length_singleton]; omega)]
  rw [hkd]
  obtain ⟨y0, hy0⟩ : ∃ z, z = s.kills ++ [x] := ⟨_, rfl⟩
  have Y0 := Aside0.mk hy0
  have hl0 : y0.length = s.kills.length + 1 := by rw [hy0]; simp
  rw [← hy0]
  have k6 : decide (16 < y0.length) = false := decide_eq_false (by omega)
  have k7 : decide (16 < (y0.length : Int)) = false := decide_eq_false (by omega)
  have hkp := hw2
  obtain ⟨lst, hlst⟩ : ∃ z, z = lastOf s.kills := ⟨_, rfl⟩
  rw [← hlst] at hw3
  have HL := Aside0.mk hlst
  have hlz : lst.size ≤ 1000000 := by rw [hlst]; exact hks _ (last_mem hw2)
  have hxz : x.size ≤ 1000000 := by omega
  have k9 : decide (0 < s.kills.length) = true := decide_eq_true hkp
  have k0 : decide (0 < (s.kills.length : Int)) = true := decide_eq_true (by omega)
  have h16 := H16.out
  have b1 : IntKind.i64.wrap ((s.kills.length : Int) - 1) = (s.kills.length : Int) - 1 := by rw [IntKind.wrap_i64]; omega
  have n1 : 0 ≤ (s.kills.length : Int) - 1 := by omega
  have n2 : (s.kills.length : Int) - 1 < (s.kills.length : Int) := by omega
  have k4 : decide ((lst.size : Int) + (x.size : Int) ≤ 4096) = false := decide_eq_false (by omega)
  have k5 : decide (lst.size + x.size ≤ 4096) = false := decide_eq_false (by omega)
  clear hw2 hw3 hlst h16
  have HK1 := Aside0.mk hw
  clear hw hxs hy0 hl0 hkd hjn hd hij hks
  go_enter Try.func47, Try.ntmps47
  go_upto_region 1 with (fail)
  rw [← HW1.out]
  obtain ⟨d0, d1, d2, d3, d4, d5, d6, d7, d8, d9⟩ := Box.cells (s := s) HE.out
  go_upto_region 7 with (first | ((with_reducible refine gate_builtin (b := .append) (xs := #[.tmp 23, .tmp 25]) rfl ?_); at_builtin; refine Kd.R_append_rows Kd.string (w0 := w1) w1.heap.size rfl (.tmp 23) (.tmp 25) 24 9 (.string ⟨#[]⟩) 16 rfl Try.underlying24 info9 rfl (by decide) (by omega) (.slice none 0 0) ([] : List ByteArray) s.kills Ak s.kills.length ck (fun _ => True) (fun _ => False) rfl rfl ?aO ?aR (fun _ _ h => h) (fun _ h => h.elim) (fun _ _ => trivial) ?aB ?aS ?aL ?_; (case aR => exact (Kd.V_reads' K1.out).2.2); (case aO => exact Kd.R_nil _ _ _ _ _); (case aB => exact Below.refl _ _); (case aS => exact Nat.le_refl _); (case aL => (have := H16.out; simp only [List.length_nil]; omega)); intro v2 w2 ho2 hb2 hg2 hat2; rw [List.nil_append] at ho2; obtain ⟨gk, c2, rfl, hgk1, hgk2, _⟩ := Kd.R_form ho2 hkp; obtain ⟨lc, lf⟩ := last_cell ho2 hkp; rw [← HL.out] at lc; have HGK := Aside0.mk hgk1; clear hgk1 hgk2; have R2 := Aside0.mk ho2; have HE2 := Aside0.mk (blk_grown HE.out hg2 (by simp [Value.ownBlock])); have HR2 := Aside0.mk (blk_grown HR.out hg2 (by simp [Value.ownBlock])); have J1 := Aside0.mk (Kd.V_grown K1.out hg2 (fun k hk => by simp [Value.ownBlock])); have J2 := Aside0.mk (Kd.V_grown K2.out hg2 (fun k hk => by simp [Value.ownBlock])); have J3 := Aside0.mk (Kd.V_grown K3.out hg2 (fun k hk => by simp [Value.ownBlock])); have HB2 := Aside0.mk hb2; have d7 := (blk_cell HE2.out 7).trans rfl; clear ho2 hb2 hg2 hat2))
  clear d0 d1 d2 d3 d4 d5 d6 d8 d9
  go_upto_region 13 with (first | (go_at_call 64; refine (rkills_calls s.last true _ HK1.out).mono ?_; rintro e w' ⟨rfl, rfl⟩) | ((with_reducible refine gate_builtin (b := .append) (xs := #[.tmp 80, .tmp 82]) rfl ?_); at_builtin; refine Kd.R_append Kd.string (w0 := w1) w1.heap.size rfl (.tmp 80) (.tmp 82) 24 9 (.string ⟨#[]⟩) 16 rfl Try.underlying24 info9 rfl (by decide) (by omega) (.slice (some ⟨gk, 0, none⟩) s.kills.length c2) s.kills x [.string x] (fun _ => True) (fun _ => False) rfl rfl ?aP (fun _ hk => hk.elim) (fun _ _ => trivial) ?aO ?aB ?aS ?aL ?_; (case aP => exact rfl); (case aO => exact R2.out); (case aB => exact HB2.out); (case aS => exact HB2.out.size); (case aL => (have := H16.out; omega)); intro v3 w3 ho3 hb3 hg3 hat3; rw [← Y0.out] at ho3; obtain ⟨A3, c3, rfl⟩ := Kd.R_slice ho3; have R3 := Aside0.mk ho3; have HE3 := Aside0.mk (blk_grown HE2.out hg3 (Kd.R_ne R2.out HE2.out (by decide))); have HR3 := Aside0.mk (blk_grown HR2.out hg3 (Kd.R_ne R2.out HR2.out (by decide))); have M1 := Aside0.mk (Kd.V_grown J1.out hg3 (fun k hk h => by have h1 := Kd.R_base R2.out k h.symm; have h2 := HLT.out k hk; omega)); have M2 := Aside0.mk (Kd.V_grown J2.out hg3 (fun k hk h => by have h1 := Kd.R_base R2.out k h.symm; have h2 := HLT.out k hk; omega)); have M3 := Aside0.mk (Kd.V_grown J3.out hg3 (fun k hk h => by have h1 := Kd.R_base R2.out k h.symm; have h2 := HLT.out k hk; omega)); have HB3 := Aside0.mk hb3; clear ho3 hb3 hg3 hat3))
  clear d7 lc lf
  have VY3 := Aside0.mk (Kd.V_mono (Kd.R_V (base' := 0) (Kd.R_bound R3.out)) (fun k hk => HNQ.out k hk.2.1))
  have HE3d := blk_frozen HE3.out
  obtain ⟨d0, d1, d2, d3, d4, d5, d6, d7, d8, d9⟩ := Box.cells (s := s) HE3.out
  have XV := Aside0.mk (show EdV w3 P0 s (.agg #[.string s.text, .int .i64 s.pos, .int .i64 s.mark, .slice Ak s.kills.length ck, .slice Au s.undo.length cu, .slice Ar s.redo.length cr, .string s.keys, .int .i64 s.last, .int .i64 s.line, .string s.saved]) from ⟨_, _, _, _, _, _, rfl, M1.out, M2.out, M3.out⟩)
  go_upto_region 16 with (first | (go_at_call 46; refine (rcut_calls w3 P0 s i j a _ XV.out HOK.out hm hi0 q2 q3 hj).mono ?_; rintro e w4 ⟨v4, rfl, hv4, hb⟩; have hbl := below_step HB3.out hb; have hszr := HB3.out.size; have hv5 : EdV w4 (fun k => P0 k ∨ w1.heap.size ≤ k) S v4 := (by rw [HS.out]; exact hv4.mono (fun k hk => hk.elim .inl (fun h => .inr (Nat.le_trans hszr h)))); have HE4 := Aside0.mk (blk_below HE3.out hb); have HR4 := Aside0.mk (blk_below HR3.out hb); have HB4 := Aside0.mk (below_step HB1.out hbl); have VY := Aside0.mk (Kd.V_below VY3.out hb); have hqe := blk_frozen HE4.out; clear d0 d1 d2 d3 d4 d5 d6 d7 d8 d9 HE3d; obtain ⟨d0, d1, d2, d3, d4, d5, d6, d7, d8, d9⟩ := ten_cells HE4.out; obtain ⟨Ak4, Au4, Ar4, ck4, cu4, cr4, rfl, g1, g2, g3⟩ := hv5.opn; have G1 := Aside0.mk g1; have G2 := Aside0.mk g2; have G3 := Aside0.mk g3; clear hv4 hv5 hb hbl g1 g2 g3 hszr))
  obtain ⟨wx, hwx⟩ : ∃ z, z = (((((((((((w4.setCell ⟨w.heap.size, 0, none⟩ (.string S.text)).setCell ⟨w.heap.size, 1, none⟩ (.int .i64 S.pos)).setCell ⟨w.heap.size, 2, none⟩ (.int .i64 S.mark)).setCell ⟨w.heap.size, 3, none⟩ (.slice Ak4 S.kills.length ck4)).setCell ⟨w.heap.size, 4, none⟩ (.slice Au4 S.undo.length cu4)).setCell ⟨w.heap.size, 5, none⟩ (.slice Ar4 S.redo.length cr4)).setCell ⟨w.heap.size, 6, none⟩ (.string S.keys)).setCell ⟨w.heap.size, 7, none⟩ (.int .i64 S.last)).setCell ⟨w.heap.size, 8, none⟩ (.int .i64 S.line)).setCell ⟨w.heap.size, 9, none⟩ (.string S.saved)).setCell ⟨w.heap.size, 3, none⟩ (.slice A3 y0.length c3)) := ⟨_, rfl⟩
  have HEX := Aside0.mk (show wx.heap[w.heap.size]? = some (.cells #[.string S.text, .int .i64 S.pos, .int .i64 S.mark, .slice A3 y0.length c3, .slice Au4 S.undo.length cu4, .slice Ar4 S.redo.length cr4, .string S.keys, .int .i64 S.last, .int .i64 S.line, .string S.saved] 27 (0, 0)) from by rw [hwx]; exact (blk_put (cs' := #[.string S.text, .int .i64 S.pos, .int .i64 S.mark, .slice A3 y0.length c3, .slice Au4 S.undo.length cu4, .slice Ar4 S.redo.length cr4, .string S.keys, .int .i64 S.last, .int .i64 S.line, .string S.saved]) (fillW_blk HE4.out) 3 (.slice A3 y0.length c3) rfl))
  have HRX := Aside0.mk (show wx.heap[w.heap.size + 1]? = some (.cells #[.string ⟨#[]⟩, .int .i64 0, .int .i64 0, .slice none 0 0, .slice none 0 0, .slice none 0 0, .string ⟨#[]⟩, .int .i64 0, .int .i64 0, .string ⟨#[]⟩] 27 (0, 0)) from by rw [hwx]; exact (blk_far (fillW_far HR4.out (by simp)) (p := ⟨w.heap.size, 3, none⟩) (by simp) _))
  have HBX := Aside0.mk (show Below w.heap.size w wx from by rw [hwx]; exact (below_set (fillW_below HB4.out (Nat.le_refl _)) (Nat.le_refl _)))
  have X1 := Aside0.mk (show Kd.V Kd.string 9 wx 0 PN _ _ from by rw [hwx]; exact (Kd.V_far (fillW_V VY.out (fun k hk => by have := HPN.out k hk; omega)) (p := ⟨w.heap.size, 3, none⟩) (fun k hk => by have := HPN.out k hk; simp; omega) _))
  have X2 := Aside0.mk (show Kd.V k23 23 wx 0 PN _ _ from by rw [hwx]; exact (Kd.V_far (fillW_V (Kd.V_mono G2.out HQN.out) (fun k hk => by have := HPN.out k hk; omega)) (p := ⟨w.heap.size, 3, none⟩) (fun k hk => by have := HPN.out k hk; simp; omega) _))
  have X3 := Aside0.mk (show Kd.V k23 23 wx 0 PN _ _ from by rw [hwx]; exact (Kd.V_far (fillW_V (Kd.V_mono G3.out HQN.out) (fun k hk => by have := HPN.out k hk; omega)) (p := ⟨w.heap.size, 3, none⟩) (fun k hk => by have := HPN.out k hk; simp; omega) _))
  have HWX := Aside0.mk hwx
  clear hwx
  go_upto_region 17 with (fail)
  rw [← HWX.out]
  clear hqe d0 d1 d2 d3 d4 d5 d6 d7 d8 d9
  obtain ⟨d0, d1, d2, d3, d4, d5, d6, d7, d8, d9⟩ := ten_cells HEX.out
  have hqr := blk_frozen HRX.out
  obtain ⟨r0, r1, r2, r3, r4, r5, r6, r7, r8, r9⟩ := ten_cells HRX.out
  go_wp2_with (fail)
  obtain ⟨y1, y2, y3⟩ := put_edV (w := w) (W := wx) (s := { S with kills := y0 }) (rb := w.heap.size + 1) X1.out X2.out X3.out (fun k hk => by have := HPN.out k hk; omega) HRX.out HBX.out (by omega)
  refine bodyPost_ret (results_cell_row rfl _ _ (w.heap.size + 1) 27 _ (0, 0) _ rfl y1 hu27 rfl (by first | rfl | decide)) rfl ?_
  exact ⟨_, rfl, y2.mono HPQ.out, y3⟩
set_option maxHeartbeats 16000000 in
set_option maxRecDepth 100000 in
theorem rkill_shift_a (w : World) (P : Nat → Prop) (s : St) (a i j : Int) (v : Value) (hv : EdV w P s v) (ok : OkS s) (hm : s.mark ≤ s.text.size) (hk16 : s.kills.length ≤ 16) (hi0 : 0 ≤ i) (hij : i < j) (hj : j ≤ s.text.size) (hjn : joins s (s.text.extract i.toNat j.toNat) = false) (hw : killsB s.last = false) (hd : s.kills.length = 16) :
    Calls Try.prog 47 #[v, .int .i64 i, .int .i64 j, .int .i64 a] w fun e w' => ∃ v', e = .returned v' ∧ EdV w' (fun k => P k ∨ w.heap.size ≤ k) (killS s a i j) v' ∧ Below w.heap.size w w' := by
  have hvo := hv.old
  obtain ⟨P0, hP0⟩ : ∃ Q : Nat → Prop, Q = fun k => P k ∧ k < w.heap.size := ⟨_, rfl⟩
  rw [← hP0] at hvo
  have hp1 : ∀ k, P0 k → P k ∧ k < w.heap.size := by intro k hk; rw [hP0] at hk; exact hk
  clear hP0
  obtain ⟨Ak, Au, Ar, ck, cu, cr, rfl, v1, v2, v3⟩ := hvo
  have hu27 := Try.underlying27
  have hu23 := Try.underlying23
  obtain ⟨w1, hw1⟩ : ∃ z, z = (w.alloc (.cells #[.string s.text, .int .i64 s.pos, .int .i64 s.mark, .slice Ak s.kills.length ck, .slice Au s.undo.length cu, .slice Ar s.redo.length cr, .string s.keys, .int .i64 s.last, .int .i64 s.line, .string s.saved] 27)).alloc (.cells #[.string ⟨#[]⟩, .int .i64 0, .int .i64 0, .slice none 0 0, .slice none 0 0, .slice none 0 0, .string ⟨#[]⟩, .int .i64 0, .int .i64 0, .string ⟨#[]⟩] 27) := ⟨_, rfl⟩
  obtain ⟨b1, b2, b3, b4⟩ := box2 w #[.string s.text, .int .i64 s.pos, .int .i64 s.mark, .slice Ak s.kills.length ck, .slice Au s.undo.length cu, .slice Ar s.redo.length cr, .string s.keys, .int .i64 s.last, .int .i64 s.line, .string s.saved] #[.string ⟨#[]⟩, .int .i64 0, .int .i64 0, .slice none 0 0, .slice none 0 0, .slice none 0 0, .string ⟨#[]⟩, .int .i64 0, .int .i64 0, .string ⟨#[]⟩] 27 27
  rw [← hw1] at b1 b2 b3 b4
  have HE := Aside0.mk b1
  have HR := Aside0.mk b2
  have HB1 := Aside0.mk b3
  have HSZ := Aside0.mk b4
  have HP1 := Aside0.mk hp1
  have HW1 := Aside0.mk hw1
  have HV := Aside0.mk (show EdV w1 P0 s (edV s (.slice Ak s.kills.length ck) (.slice Au s.undo.length cu) (.slice Ar s.redo.length cr)) from ⟨Ak, Au, Ar, ck, cu, cr, rfl, Kd.V_below v1 b3, Kd.V_below v2 b3, Kd.V_below v3 b3⟩)
  have K1 := Aside0.mk (Kd.V_below v1 b3)
  have K2 := Aside0.mk (Kd.V_below v2 b3)
  have K3 := Aside0.mk (Kd.V_below v3 b3)
  unfold edV at HV hv ⊢
  obtain ⟨d0, d1, d2, d3, d4, d5, d6, d7, d8, d9⟩ := Box.cells (s := s) b1
  clear hv v1 v2 v3 hw1 b1 b2 b3 b4 hp1
  clear d0 d1 d2 d3 d4 d5 d6 d7 d8 d9
  have hs := ok.text
  have hks := ok.each
  have HOK := Aside0.mk ok
  clear ok
  have q0 : (i == j) = false := beq_eq_false_iff_ne.mpr (by omega)
  have q1 : i ≤ j := by omega
  have q2 : i ≤ (s.text.size : Int) := by omega
  have q3 : 0 ≤ j := by omega
  have H16 := Aside0.mk hk16
  obtain ⟨S, hS⟩ : ∃ z, z = (setS s a (s.text.extract 0 i.toNat ++ s.text.extract j.toNat s.text.size) i).1 := ⟨_, rfl⟩
  rw [kill_at s a i j hij, ← hS]
  have HS := Aside0.mk hS
  obtain ⟨x, hx⟩ : ∃ z, z = s.text.extract i.toNat j.toNat := ⟨_, rfl⟩
  rw [← hx] at hjn ⊢
  have hxs : x.size = j.toNat - i.toNat := by rw [hx, ByteArray.size_extract]; omega
  have hxe : s.text.extract i.toNat j.toNat = x := hx.symm
  obtain ⟨PN, hPN⟩ : ∃ Q : Nat → Prop, Q = fun k => P0 k ∨ w1.heap.size ≤ k := ⟨_, rfl⟩
  have HPN := Aside0.mk (show ∀ k, PN k → k ≠ w.heap.size ∧ k ≠ w.heap.size + 1 from by intro k hk; rw [hPN] at hk; have h1 := HP1.out k; have h2 := HSZ.out; rcases hk with hk | hk; exact (by have := (h1 hk).2; omega); exact (by omega))
  have HPQ := Aside0.mk (show ∀ k, PN k → (P k ∨ w.heap.size ≤ k) from by intro k hk; rw [hPN] at hk; have h2 := HSZ.out; rcases hk with hk | hk; exact .inl (HP1.out k hk).1; exact .inr (by omega))
  have HNQ := Aside0.mk (show ∀ k, w1.heap.size ≤ k → PN k from by intro k hk; rw [hPN]; exact .inr hk)
  have HQN := Aside0.mk (show ∀ k, (P0 k ∨ w1.heap.size ≤ k) → PN k from by intro k hk; rw [hPN]; exact hk)
  have HLT := Aside0.mk (show ∀ k, P0 k → k < w1.heap.size from by intro k hk; have := (HP1.out k hk).2; have := HSZ.out; omega)
  have H12 := Aside0.mk (show w.heap.size ≤ w1.heap.size from by have := HSZ.out; omega)
  clear hS hx hPN hk16
  have hkd : killedS s a x = (s.kills ++ [x]).drop 1 := by
    unfold killedS pushK
    rw [if_neg (by rw [hjn]; decide), if_pos (by rw [List.length_append, List.length_singleton]; omega)]
  rw [hkd]
  obtain ⟨y0, hy0⟩ : ∃ z, z = s.kills ++ [x] := ⟨_, rfl⟩
  have Y0 := Aside0.mk hy0
  have hl0 : y0.length = s.kills.length + 1 := by rw [hy0]; simp
  rw [← hy0]
  obtain ⟨y, hy⟩ : ∃ z, z = y0.drop 1 := ⟨_, rfl⟩
  rw [← hy]
  have HY := Aside0.mk hy
  have HY1 := Aside0.mk (show 1 ≤ y0.length from by omega)
  have k6 : decide (16 < y0.length) = true := decide_eq_true (by omega)
  have k7 : decide (16 < (y0.length : Int)) = true := decide_eq_true (by omega)
  clear hy
  have HK1 := Aside0.mk hw
  clear hw hxs hy0 hl0 hkd hjn hd hij hks
  go_enter Try.func47, Try.ntmps47
  go_upto_region 1 with (fail)
  rw [← HW1.out]
  obtain ⟨d0, d1, d2, d3, d4, d5, d6, d7, d8, d9⟩ := Box.cells (s := s) HE.out
  go_upto_region 7 with (first | ((with_reducible refine gate_builtin (b := .append) (xs := #[.tmp 23, .tmp 25]) rfl ?_); at_builtin; refine Kd.R_append_rows Kd.string (w0 := w1) w1.heap.size rfl (.tmp 23) (.tmp 25) 24 9 (.string ⟨#[]⟩) 16 rfl Try.underlying24 info9 rfl (by decide) (by omega) (.slice none 0 0) ([] : List ByteArray) s.kills Ak s.kills.length ck (fun _ => True) (fun _ => False) rfl rfl ?aO ?aR (fun _ _ h => h) (fun _ h => h.elim) (fun _ _ => trivial) ?aB ?aS ?aL ?_; (case aR => exact (Kd.V_reads' K1.out).2.2); (case aO => exact Kd.R_nil _ _ _ _ _); (case aB => exact Below.refl _ _); (case aS => exact Nat.le_refl _); (case aL => (have := H16.out; simp only [List.length_nil]; omega)); intro v2 w2 ho2 hb2 hg2 hat2; rw [List.nil_append] at ho2; obtain ⟨A2, c2, rfl⟩ := Kd.R_slice ho2; have R2 := Aside0.mk ho2; have HE2 := Aside0.mk (blk_grown HE.out hg2 (by simp [Value.ownBlock])); have HR2 := Aside0.mk (blk_grown HR.out hg2 (by simp [Value.ownBlock])); have J1 := Aside0.mk (Kd.V_grown K1.out hg2 (fun k hk => by simp [Value.ownBlock])); have J2 := Aside0.mk (Kd.V_grown K2.out hg2 (fun k hk => by simp [Value.ownBlock])); have J3 := Aside0.mk (Kd.V_grown K3.out hg2 (fun k hk => by simp [Value.ownBlock])); have HB2 := Aside0.mk hb2; have d7 := (blk_cell HE2.out 7).trans rfl; clear ho2 hb2 hg2 hat2))
  clear d0 d1 d2 d3 d4 d5 d6 d8 d9
  go_upto_region 13 with (first | (go_at_call 64; refine (rkills_calls s.last false _ HK1.out).mono ?_; rintro e w' ⟨rfl, rfl⟩) | ((with_reducible refine gate_builtin (b := .append) (xs := #[.tmp 80, .tmp 82]) rfl ?_); at_builtin; refine Kd.R_append Kd.string (w0 := w1) w1.heap.size rfl (.tmp 80) (.tmp 82) 24 9 (.string ⟨#[]⟩) 16 rfl Try.underlying24 info9 rfl (by decide) (by omega) (.slice A2 s.kills.length c2) s.kills x [.string x] (fun _ => True) (fun _ => False) rfl rfl ?aP (fun _ hk => hk.elim) (fun _ _ => trivial) ?aO ?aB ?aS ?aL ?_; (case aP => exact rfl); (case aO => exact R2.out); (case aB => exact HB2.out); (case aS => exact HB2.out.size); (case aL => (have := H16.out; omega)); intro v3 w3 ho3 hb3 hg3 hat3; rw [← Y0.out] at ho3; obtain ⟨A3, c3, rfl⟩ := Kd.R_slice ho3; have R3 := Aside0.mk ho3; have HE3 := Aside0.mk (blk_grown HE2.out hg3 (Kd.R_ne R2.out HE2.out (by decide))); have HR3 := Aside0.mk (blk_grown HR2.out hg3 (Kd.R_ne R2.out HR2.out (by decide))); have M1 := Aside0.mk (Kd.V_grown J1.out hg3 (fun k hk h => by have h1 := Kd.R_base R2.out k h.symm; have h2 := HLT.out k hk; omega)); have M2 := Aside0.mk (Kd.V_grown J2.out hg3 (fun k hk h => by have h1 := Kd.R_base R2.out k h.symm; have h2 := HLT.out k hk; omega)); have M3 := Aside0.mk (Kd.V_grown J3.out hg3 (fun k hk h => by have h1 := Kd.R_base R2.out k h.symm; have h2 := HLT.out k hk; omega)); have HB3 := Aside0.mk hb3; clear ho3 hb3 hg3 hat3))
  clear d7
  have HV3 := V_one (Kd.V_mono (Kd.R_V (base' := 0) (Kd.R_bound R3.out)) (fun k hk => HNQ.out k hk.2.1)) rfl HY1.out
  obtain ⟨A5, hA5⟩ : ∃ z, z = (if c3 = (1 : Int).toNat then A3 else A3.map (·.add ((1 : Int).toNat * 1))) := ⟨_, rfl⟩
  obtain ⟨c5, hc5⟩ : ∃ z, z = c3 - (1 : Int).toNat := ⟨_, rfl⟩
  rw [← hA5, ← hc5, ← HY.out] at HV3
  have VY3 := Aside0.mk HV3
  obtain ⟨i013, hi013, _, hsz13, _⟩ := info_parts info9
  have hcut : ∀ W, (Instr.slice 24 (.slice A3 y0.length c3) (some (.int .i64 1)) none none).run Try.prog W = .ok (.slice A5 y.length c5) W := by
    intro W
    have hyl : y.length = y0.length - (1 : Int).toNat := by rw [HY.out, List.length_drop]; rfl
    rw [hA5, hc5, hyl]
    exact cut_from (P := Try.prog) 24 9 .i64 Try.underlying24 hi013 1 hsz13 A3 y0.length c3 1 (by omega) (by have := HY1.out; omega) W
  clear hA5 hc5 hsz13 hi013 HV3
  have HE3d := blk_frozen HE3.out
  obtain ⟨d0, d1, d2, d3, d4, d5, d6, d7, d8, d9⟩ := Box.cells (s := s) HE3.out
  have XV := Aside0.mk (show EdV w3 P0 s (.agg #[.string s.text, .int .i64 s.pos, .int .i64 s.mark, .slice Ak s.kills.length ck, .slice Au s.undo.length cu, .slice Ar s.redo.length cr, .string s.keys, .int .i64 s.last, .int .i64 s.line, .string s.saved]) from ⟨_, _, _, _, _, _, rfl, M1.out, M2.out, M3.out⟩)
  go_upto_region 16 with (first | (go_at_call 46; refine (rcut_calls w3 P0 s i j a _ XV.out HOK.out hm hi0 q2 q3 hj).mono ?_; rintro e w4 ⟨v4, rfl, hv4, hb⟩; have hbl := below_step HB3.out hb; have hszr := HB3.out.size; have hv5 : EdV w4 (fun k => P0 k ∨ w1.heap.size ≤ k) S v4 := (by rw [HS.out]; exact hv4.mono (fun k hk => hk.elim .inl (fun h => .inr (Nat.le_trans hszr h)))); have HE4 := Aside0.mk (blk_below HE3.out hb); have HR4 := Aside0.mk (blk_below HR3.out hb); have HB4 := Aside0.mk (below_step HB1.out hbl); have VY := Aside0.mk (Kd.V_below VY3.out hb); have hqe := blk_frozen HE4.out; clear d0 d1 d2 d3 d4 d5 d6 d7 d8 d9 HE3d; obtain ⟨d0, d1, d2, d3, d4, d5, d6, d7, d8, d9⟩ := ten_cells HE4.out; obtain ⟨Ak4, Au4, Ar4, ck4, cu4, cr4, rfl, g1, g2, g3⟩ := hv5.opn; have G1 := Aside0.mk g1; have G2 := Aside0.mk g2; have G3 := Aside0.mk g3; clear hv4 hv5 hb hbl g1 g2 g3 hszr))
  obtain ⟨wx, hwx⟩ : ∃ z, z = (((((((((((w4.setCell ⟨w.heap.size, 0, none⟩ (.string S.text)).setCell ⟨w.heap.size, 1, none⟩ (.int .i64 S.pos)).setCell ⟨w.heap.size, 2, none⟩ (.int .i64 S.mark)).setCell ⟨w.heap.size, 3, none⟩ (.slice Ak4 S.kills.length ck4)).setCell ⟨w.heap.size, 4, none⟩ (.slice Au4 S.undo.length cu4)).setCell ⟨w.heap.size, 5, none⟩ (.slice Ar4 S.redo.length cr4)).setCell ⟨w.heap.size, 6, none⟩ (.string S.keys)).setCell ⟨w.heap.size, 7, none⟩ (.int .i64 S.last)).setCell ⟨w.heap.size, 8, none⟩ (.int .i64 S.line)).setCell ⟨w.heap.size, 9, none⟩ (.string S.saved)).setCell ⟨w.heap.size, 3, none⟩ (.slice A5 y.length c5)) := ⟨_, rfl⟩
  have HEX := Aside0.mk (show wx.heap[w.heap.size]? = some (.cells #[.string S.text, .int .i64 S.pos, .int .i64 S.mark, .slice A5 y.length c5, .slice Au4 S.undo.length cu4, .slice Ar4 S.redo.length cr4, .string S.keys, .int .i64 S.last, .int .i64 S.line, .string S.saved] 27 (0, 0)) from by rw [hwx]; exact (blk_put (cs' := #[.string S.text, .int .i64 S.pos, .int .i64 S.mark, .slice A5 y.length c5, .slice Au4 S.undo.length cu4, .slice Ar4 S.redo.length cr4, .string S.keys, .int .i64 S.last, .int .i64 S.line, .string S.saved]) (fillW_blk HE4.out) 3 (.slice A5 y.length c5) rfl))
  have HRX := Aside0.mk (show wx.heap[w.heap.size + 1]? = some (.cells #[.string ⟨#[]⟩, .int .i64 0, .int .i64 0, .slice none 0 0, .slice none 0 0, .slice none 0 0, .string ⟨#[]⟩, .int .i64 0, .int .i64 0, .string ⟨#[]⟩] 27 (0, 0)) from by rw [hwx]; exact (blk_far (fillW_far HR4.out (by simp)) (p := ⟨w.heap.size, 3, none⟩) (by simp) _))
  have HBX := Aside0.mk (show Below w.heap.size w wx from by rw [hwx]; exact (below_set (fillW_below HB4.out (Nat.le_refl _)) (Nat.le_refl _)))
  have X1 := Aside0.mk (show Kd.V Kd.string 9 wx 0 PN _ _ from by rw [hwx]; exact (Kd.V_far (fillW_V VY.out (fun k hk => by have := HPN.out k hk; omega)) (p := ⟨w.heap.size, 3, none⟩) (fun k hk => by have := HPN.out k hk; simp; omega) _))
  have X2 := Aside0.mk (show Kd.V k23 23 wx 0 PN _ _ from by rw [hwx]; exact (Kd.V_far (fillW_V (Kd.V_mono G2.out HQN.out) (fun k hk => by have := HPN.out k hk; omega)) (p := ⟨w.heap.size, 3, none⟩) (fun k hk => by have := HPN.out k hk; simp; omega) _))
  have X3 := Aside0.mk (show Kd.V k23 23 wx 0 PN _ _ from by rw [hwx]; exact (Kd.V_far (fillW_V (Kd.V_mono G3.out HQN.out) (fun k hk => by have := HPN.out k hk; omega)) (p := ⟨w.heap.size, 3, none⟩) (fun k hk => by have := HPN.out k hk; simp; omega) _))
  have HWX := Aside0.mk hwx
  clear hwx
  go_upto_region 17 with (fail)
  rw [← HWX.out]
  clear hqe d0 d1 d2 d3 d4 d5 d6 d7 d8 d9
  obtain ⟨d0, d1, d2, d3, d4, d5, d6, d7, d8, d9⟩ := ten_cells HEX.out
  have hqr := blk_frozen HRX.out
  obtain ⟨r0, r1, r2, r3, r4, r5, r6, r7, r8, r9⟩ := ten_cells HRX.out
  go_wp2_with (fail)
  obtain ⟨y1, y2, y3⟩ := put_edV (w := w) (W := wx) (s := { S with kills := y }) (rb := w.heap.size + 1) X1.out X2.out X3.out (fun k hk => by have := HPN.out k hk; omega) HRX.out HBX.out (by omega)
  refine bodyPost_ret (results_cell_row rfl _ _ (w.heap.size + 1) 27 _ (0, 0) _ rfl y1 hu27 rfl (by first | rfl | decide)) rfl ?_
  exact ⟨_, rfl, y2.mono HPQ.out, y3⟩
set_option maxHeartbeats 16000000 in
set_option maxRecDepth 100000 in
theorem rkill_shift_c (w : World) (P : Nat → Prop) (s : St) (a i j : Int) (v : Value) (hv : EdV w P s v) (ok : OkS s) (hm : s.mark ≤ s.text.size) (hk16 : s.kills.length ≤ 16) (hi0 : 0 ≤ i) (hij : i < j) (hj : j ≤ s.text.size) (hjn : joins s (s.text.extract i.toNat j.toNat) = false) (hw : killsB s.last = true) (hw2 : 0 < s.kills.length) (hw3 : 4096 < ((lastOf s.kills).size : Int) + ((s.text.extract i.toNat j.toNat).size : Int)) (hd : s.kills.length = 16) :
    Calls Try.prog 47 #[v, .int .i64 i, .int .i64 j, .int .i64 a] w fun e w' => ∃ v', e = .returned v' ∧ EdV w' (fun k => P k ∨ w.heap.size ≤ k) (killS s a i j) v' ∧ Below w.heap.size w w' := by
  have hvo := hv.old
  obtain ⟨P0, hP0⟩ : ∃ Q : Nat → Prop, Q = fun k => P k ∧ k < w.heap.size := ⟨_, rfl⟩
  rw [← hP0] at hvo
  have hp1 : ∀ k, P0 k → P k ∧ k < w.heap.size := by intro k hk; rw [hP0] at hk; exact hk
  clear hP0
  obtain ⟨Ak, Au, Ar, ck, cu, cr, rfl, v1, v2, v3⟩ := hvo
  have hu27 := Try.underlying27
  have hu23 := Try.underlying23
  obtain ⟨w1, hw1⟩ : ∃ z, z = (w.alloc (.cells #[.string s.text, .int .i64 s.pos, .int .i64 s.mark, .slice Ak s.kills.length ck, .slice Au s.undo.length cu, .slice Ar s.redo.length cr, .string s.keys, .int .i64 s.last, .int .i64 s.line, .string s.saved] 27)).alloc (.cells #[.string ⟨#[]⟩, .int .i64 0, .int .i64 0, .slice none 0 0, .slice none 0 0, .slice none 0 0, .string ⟨#[]⟩, .int .i64 0, .int .i64 0, .string ⟨#[]⟩] 27) := ⟨_, rfl⟩
  obtain ⟨b1, b2, b3, b4⟩ := box2 w #[.string s.text, .int .i64 s.pos, .int .i64 s.mark, .slice Ak s.kills.length ck, .slice Au s.undo.length cu, .slice Ar s.redo.length cr, .string s.keys, .int .i64 s.last, .int .i64 s.line, .string s.saved] #[.string ⟨#[]⟩, .int .i64 0, .int .i64 0, .slice none 0 0, .slice none 0 0, .slice none 0 0, .string ⟨#[]⟩, .int .i64 0, .int .i64 0, .string ⟨#[]⟩] 27 27
  rw [← hw1] at b1 b2 b3 b4
  have HE := Aside0.mk b1
  have HR := Aside0.mk b2
  have HB1 := Aside0.mk b3
  have HSZ := Aside0.mk b4
  have HP1 := Aside0.mk hp1
  have HW1 := Aside0.mk hw1
  have HV := Aside0.mk (show EdV w1 P0 s (edV s (.slice Ak s.kills.length ck) (.slice Au s.undo.length cu) (.slice Ar s.redo.length cr)) from ⟨Ak, Au, Ar, ck, cu, cr, rfl, Kd.V_below v1 b3, Kd.V_below v2 b3, Kd.V_below v3 b3⟩)
  have K1 := Aside0.mk (Kd.V_below v1 b3)
  have K2 := Aside0.mk (Kd.V_below v2 b3)
  have K3 := Aside0.mk (Kd.V_below v3 b3)
  unfold edV at HV hv ⊢
  obtain ⟨d0, d1, d2, d3, d4, d5, d6, d7, d8, d9⟩ := Box.cells (s := s) b1
  clear hv v1 v2 v3 hw1 b1 b2 b3 b4 hp1
  clear d0 d1 d2 d3 d4 d5 d6 d7 d8 d9
  have hs := ok.text
  have hks := ok.each
  have HOK := Aside0.mk ok
  clear ok
  have q0 : (i == j) = false := beq_eq_false_iff_ne.mpr (by omega)
  have q1 : i ≤ j := by omega
  have q2 : i ≤ (s.text.size : Int) := by omega
  have q3 : 0 ≤ j := by omega
  have H16 := Aside0.mk hk16
  obtain ⟨S, hS⟩ : ∃ z, z = (setS s a (s.text.extract 0 i.toNat ++ s.text.extract j.toNat s.text.size) i).1 := ⟨_, rfl⟩
  rw [kill_at s a i j hij, ← hS]
  have HS := Aside0.mk hS
  obtain ⟨x, hx⟩ : ∃ z, z = s.text.extract i.toNat j.toNat := ⟨_, rfl⟩
  rw [← hx] at hjn ⊢
  rw [← hx] at hw3
  have hxs : x.size = j.toNat - i.toNat := by rw [hx, ByteArray.size_extract]; omega
  have hxe : s.text.extract i.toNat j.toNat = x := hx.symm
  obtain ⟨PN, hPN⟩ : ∃ Q : Nat → Prop, Q = fun k => P0 k ∨ w1.heap.size ≤ k := ⟨_, rfl⟩
  have HPN := Aside0.mk (show ∀ k, PN k → k ≠ w.heap.size ∧ k ≠ w.heap.size + 1 from by intro k hk; rw [hPN] at hk; have h1 := HP1.out k; have h2 := HSZ.out; rcases hk with hk | hk; exact (by have := (h1 hk).2; omega); exact (by omega))
  have HPQ := Aside0.mk (show ∀ k, PN k → (P k ∨ w.heap.size ≤ k) from by intro k hk; rw [hPN] at hk; have h2 := HSZ.out; rcases hk with hk | hk; exact .inl (HP1.out k hk).1; exact .inr (by omega))
  have HNQ := Aside0.mk (show ∀ k, w1.heap.size ≤ k → PN k from by intro k hk; rw [hPN]; exact .inr hk)
  have HQN := Aside0.mk (show ∀ k, (P0 k ∨ w1.heap.size ≤ k) → PN k from by intro k hk; rw [hPN]; exact hk)
  have HLT := Aside0.mk (show ∀ k, P0 k → k < w1.heap.size from by intro k hk; have := (HP1.out k hk).2; have := HSZ.out; omega)
  have H12 := Aside0.mk (show w.heap.size ≤ w1.heap.size from by have := HSZ.out; omega)
  clear hS hx hPN hk16
  have hkd : killedS s a x = (s.kills ++ [x]).drop 1 := by
    unfold killedS pushK
    rw [if_neg (by rw [hjn]; decide), if_pos (by rw [List.length_append, List.length_singleton]; omega)]
  rw [hkd]
  obtain ⟨y0, hy0⟩ : ∃ z, z = s.kills ++ [x] := ⟨_, rfl⟩
  have Y0 := Aside0.mk hy0
  have hl0 : y0.length = s.kills.length + 1 := by rw [hy0]; simp
  rw [← hy0]
  obtain ⟨y, hy⟩ : ∃ z, z = y0.drop 1 := ⟨_, rfl⟩
  rw [← hy]
  have HY := Aside0.mk hy
  have HY1 := Aside0.mk (show 1 ≤ y0.length from by omega)
  have k6 : decide (16 < y0.length) = true := decide_eq_true (by omega)
  have k7 : decide (16 < (y0.length : Int)) = true := decide_eq_true (by omega)
  clear hy
  have hkp := hw2
  obtain ⟨lst, hlst⟩ : ∃ z, z = lastOf s.kills := ⟨_, rfl⟩
  rw [← hlst] at hw3
  have HL := Aside0.mk hlst
  have hlz : lst.size ≤ 1000000 := by rw [hlst]; exact hks _ (last_mem hw2)
  have hxz : x.size ≤ 1000000 := by omega
  have k9 : decide (0 < s.kills.length) = true := decide_eq_true hkp
  have k0 : decide (0 < (s.kills.length : Int)) = true := decide_eq_true (by omega)
  have h16 := H16.out
  have b1 : IntKind.i64.wrap ((s.kills.length : Int) - 1) = (s.kills.length : Int) - 1 := by rw [IntKind.wrap_i64]; omega
  have n1 : 0 ≤ (s.kills.length : Int) - 1 := by omega
  have n2 : (s.kills.length : Int) - 1 < (s.kills.length : Int) := by omega
  have k4 : decide ((lst.size : Int) + (x.size : Int) ≤ 4096) = false := decide_eq_false (by omega)
  have k5 : decide (lst.size + x.size ≤ 4096) = false := decide_eq_false (by omega)
  clear hw2 hw3 hlst h16
  have HK1 := Aside0.mk hw
  clear hw hxs hy0 hl0 hkd hjn hd hij hks
  go_enter Try.func47, Try.ntmps47
  go_upto_region 1 with (fail)
  rw [← HW1.out]
  obtain ⟨d0, d1, d2, d3, d4, d5, d6, d7, d8, d9⟩ := Box.cells (s := s) HE.out
  go_upto_region 7 with (first | ((with_reducible refine gate_builtin (b := .append) (xs := #[.tmp 23, .tmp 25]) rfl ?_); at_builtin; refine Kd.R_append_rows Kd.string (w0 := w1) w1.heap.size rfl (.tmp 23) (.tmp 25) 24 9 (.string ⟨#[]⟩) 16 rfl Try.underlying24 info9 rfl (by decide) (by omega) (.slice none 0 0) ([] : List ByteArray) s.kills Ak s.kills.length ck (fun _ => True) (fun _ => False) rfl rfl ?aO ?aR (fun _ _ h => h) (fun _ h => h.elim) (fun _ _ => trivial) ?aB ?aS ?aL ?_; (case aR => exact (Kd.V_reads' K1.out).2.2); (case aO => exact Kd.R_nil _ _ _ _ _); (case aB => exact Below.refl _ _); (case aS => exact Nat.le_refl _); (case aL => (have := H16.out; simp only [List.length_nil]; omega)); intro v2 w2 ho2 hb2 hg2 hat2; rw [List.nil_append] at ho2; obtain ⟨gk, c2, rfl, hgk1, hgk2, _⟩ := Kd.R_form ho2 hkp; obtain ⟨lc, lf⟩ := last_cell ho2 hkp; rw [← HL.out] at lc; have HGK := Aside0.mk hgk1; clear hgk1 hgk2; have R2 := Aside0.mk ho2; have HE2 := Aside0.mk (blk_grown HE.out hg2 (by simp [Value.ownBlock])); have HR2 := Aside0.mk (blk_grown HR.out hg2 (by simp [Value.ownBlock])); have J1 := Aside0.mk (Kd.V_grown K1.out hg2 (fun k hk => by simp [Value.ownBlock])); have J2 := Aside0.mk (Kd.V_grown K2.out hg2 (fun k hk => by simp [Value.ownBlock])); have J3 := Aside0.mk (Kd.V_grown K3.out hg2 (fun k hk => by simp [Value.ownBlock])); have HB2 := Aside0.mk hb2; have d7 := (blk_cell HE2.out 7).trans rfl; clear ho2 hb2 hg2 hat2))
  clear d0 d1 d2 d3 d4 d5 d6 d8 d9
  go_upto_region 13 with (first | (go_at_call 64; refine (rkills_calls s.last true _ HK1.out).mono ?_; rintro e w' ⟨rfl, rfl⟩) | ((with_reducible refine gate_builtin (b := .append) (xs := #[.tmp 80, .tmp 82]) rfl ?_); at_builtin; refine Kd.R_append Kd.string (w0 := w1) w1.heap.size rfl (.tmp 80) (.tmp 82) 24 9 (.string ⟨#[]⟩) 16 rfl Try.underlying24 info9 rfl (by decide) (by omega) (.slice (some ⟨gk, 0, none⟩) s.kills.length c2) s.kills x [.string x] (fun _ => True) (fun _ => False) rfl rfl ?aP (fun _ hk => hk.elim) (fun _ _ => trivial) ?aO ?aB ?aS ?aL ?_; (case aP => exact rfl); (case aO => exact R2.out); (case aB => exact HB2.out); (case aS => exact HB2.out.size); (case aL => (have := H16.out; omega)); intro v3 w3 ho3 hb3 hg3 hat3; rw [← Y0.out] at ho3; obtain ⟨A3, c3, rfl⟩ := Kd.R_slice ho3; have R3 := Aside0.mk ho3; have HE3 := Aside0.mk (blk_grown HE2.out hg3 (Kd.R_ne R2.out HE2.out (by decide))); have HR3 := Aside0.mk (blk_grown HR2.out hg3 (Kd.R_ne R2.out HR2.out (by decide))); have M1 := Aside0.mk (Kd.V_grown J1.out hg3 (fun k hk h => by have h1 := Kd.R_base R2.out k h.symm; have h2 := HLT.out k hk; omega)); have M2 := Aside0.mk (Kd.V_grown J2.out hg3 (fun k hk h => by have h1 := Kd.R_base R2.out k h.symm; have h2 := HLT.out k hk; omega)); have M3 := Aside0.mk (Kd.V_grown J3.out hg3 (fun k hk h => by have h1 := Kd.R_base R2.out k h.symm; have h2 := HLT.out k hk; omega)); have HB3 := Aside0.mk hb3; clear ho3 hb3 hg3 hat3))
  clear d7 lc lf
  have HV3 := V_one (Kd.V_mono (Kd.R_V (base' := 0) (Kd.R_bound R3.out)) (fun k hk => HNQ.out k hk.2.1)) rfl HY1.out
  obtain ⟨A5, hA5⟩ : ∃ z, z = (if c3 = (1 : Int).toNat then A3 else A3.map (·.add ((1 : Int).toNat * 1))) := ⟨_, rfl⟩
  obtain ⟨c5, hc5⟩ : ∃ z, z = c3 - (1 : Int).toNat := ⟨_, rfl⟩
  rw [← hA5, ← hc5, ← HY.out] at HV3
  have VY3 := Aside0.mk HV3
  obtain ⟨i013, hi013, _, hsz13, _⟩ := info_parts info9
  have hcut : ∀ W, (Instr.slice 24 (.slice A3 y0.length c3) (some (.int .i64 1)) none none).run Try.prog W = .ok (.slice A5 y.length c5) W := by
    intro W
    have hyl : y.length = y0.length - (1 : Int).toNat := by rw [HY.out, List.length_drop]; rfl
    rw [hA5, hc5, hyl]
    exact cut_from (P := Try.prog) 24 9 .i64 Try.underlying24 hi013 1 hsz13 A3 y0.length c3 1 (by omega) (by have := HY1.out; omega) W
  clear hA5 hc5 hsz13 hi013 HV3
  have HE3d := blk_frozen HE3.out
  obtain ⟨d0, d1, d2, d3, d4, d5, d6, d7, d8, d9⟩ := Box.cells (s := s) HE3.out
  have XV := Aside0.mk (show EdV w3 P0 s (.agg #[.string s.text, .int .i64 s.pos, .int .i64 s.mark, .slice Ak s.kills.length ck, .slice Au s.undo.length cu, .slice Ar s.redo.length cr, .string s.keys, .int .i64 s.last, .int .i64 s.line, .string s.saved]) from ⟨_, _, _, _, _, _, rfl, M1.out, M2.out, M3.out⟩)
  go_upto_region 16 with (first | (go_at_call 46; refine (rcut_calls w3 P0 s i j a _ XV.out HOK.out hm hi0 q2 q3 hj).mono ?_; rintro e w4 ⟨v4, rfl, hv4, hb⟩; have hbl := below_step HB3.out hb; have hszr := HB3.out.size; have hv5 : EdV w4 (fun k => P0 k ∨ w1.heap.size ≤ k) S v4 := (by rw [HS.out]; exact hv4.mono (fun k hk => hk.elim .inl (fun h => .inr (Nat.le_trans hszr h)))); have HE4 := Aside0.mk (blk_below HE3.out hb); have HR4 := Aside0.mk (blk_below HR3.out hb); have HB4 := Aside0.mk (below_step HB1.out hbl); have VY := Aside0.mk (Kd.V_below VY3.out hb); have hqe := blk_frozen HE4.out; clear d0 d1 d2 d3 d4 d5 d6 d7 d8 d9 HE3d; obtain ⟨d0, d1, d2, d3, d4, d5, d6, d7, d8, d9⟩ := ten_cells HE4.out; obtain ⟨Ak4, Au4, Ar4, ck4, cu4, cr4, rfl, g1, g2, g3⟩ := hv5.opn; have G1 := Aside0.mk g1; have G2 := Aside0.mk g2; have G3 := Aside0.mk g3; clear hv4 hv5 hb hbl g1 g2 g3 hszr))
  obtain ⟨wx, hwx⟩ : ∃ z, z = (((((((((((w4.setCell ⟨w.heap.size, 0, none⟩ (.string S.text)).setCell ⟨w.heap.size, 1, none⟩ (.int .i64 S.pos)).setCell ⟨w.heap.size, 2, none⟩ (.int .i64 S.mark)).setCell ⟨w.heap.size, 3, none⟩ (.slice Ak4 S.kills.length ck4)).setCell ⟨w.heap.size, 4, none⟩ (.slice Au4 S.undo.length cu4)).setCell ⟨w.heap.size, 5, none⟩ (.slice Ar4 S.redo.length cr4)).setCell ⟨w.heap.size, 6, none⟩ (.string S.keys)).setCell ⟨w.heap.size, 7, none⟩ (.int .i64 S.last)).setCell ⟨w.heap.size, 8, none⟩ (.int .i64 S.line)).setCell ⟨w.heap.size, 9, none⟩ (.string S.saved)).setCell ⟨w.heap.size, 3, none⟩ (.slice A5 y.length c5)) := ⟨_, rfl⟩
  have HEX := Aside0.mk (show wx.heap[w.heap.size]? = some (.cells #[.string S.text, .int .i64 S.pos, .int .i64 S.mark, .slice A5 y.length c5, .slice Au4 S.undo.length cu4, .slice Ar4 S.redo.length cr4, .string S.keys, .int .i64 S.last, .int .i64 S.line, .string S.saved] 27 (0, 0)) from by rw [hwx]; exact (blk_put (cs' := #[.string S.text, .int .i64 S.pos, .int .i64 S.mark, .slice A5 y.length c5, .slice Au4 S.undo.length cu4, .slice Ar4 S.redo.length cr4, .string S.keys, .int .i64 S.last, .int .i64 S.line, .string S.saved]) (fillW_blk HE4.out) 3 (.slice A5 y.length c5) rfl))
  have HRX := Aside0.mk (show wx.heap[w.heap.size + 1]? = some (.cells #[.string ⟨#[]⟩, .int .i64 0, .int .i64 0, .slice none 0 0, .slice none 0 0, .slice none 0 0, .string ⟨#[]⟩, .int .i64 0, .int .i64 0, .string ⟨#[]⟩] 27 (0, 0)) from by rw [hwx]; exact (blk_far (fillW_far HR4.out (by simp)) (p := ⟨w.heap.size, 3, none⟩) (by simp) _))
  have HBX := Aside0.mk (show Below w.heap.size w wx from by rw [hwx]; exact (below_set (fillW_below HB4.out (Nat.le_refl _)) (Nat.le_refl _)))
  have X1 := Aside0.mk (show Kd.V Kd.string 9 wx 0 PN _ _ from by rw [hwx]; exact (Kd.V_far (fillW_V VY.out (fun k hk => by have := HPN.out k hk; omega)) (p := ⟨w.heap.size, 3, none⟩) (fun k hk => by have := HPN.out k hk; simp; omega) _))
  have X2 := Aside0.mk (show Kd.V k23 23 wx 0 PN _ _ from by rw [hwx]; exact (Kd.V_far (fillW_V (Kd.V_mono G2.out HQN.out) (fun k hk => by have := HPN.out k hk; omega)) (p := ⟨w.heap.size, 3, none⟩) (fun k hk => by have := HPN.out k hk; simp; omega) _))
  have X3 := Aside0.mk (show Kd.V k23 23 wx 0 PN _ _ from by rw [hwx]; exact (Kd.V_far (fillW_V (Kd.V_mono G3.out HQN.out) (fun k hk => by have := HPN.out k hk; omega)) (p := ⟨w.heap.size, 3, none⟩) (fun k hk => by have := HPN.out k hk; simp; omega) _))
  have HWX := Aside0.mk hwx
  clear hwx
  go_upto_region 17 with (fail)
  rw [← HWX.out]
  clear hqe d0 d1 d2 d3 d4 d5 d6 d7 d8 d9
  obtain ⟨d0, d1, d2, d3, d4, d5, d6, d7, d8, d9⟩ := ten_cells HEX.out
  have hqr := blk_frozen HRX.out
  obtain ⟨r0, r1, r2, r3, r4, r5, r6, r7, r8, r9⟩ := ten_cells HRX.out
  go_wp2_with (fail)
  obtain ⟨y1, y2, y3⟩ := put_edV (w := w) (W := wx) (s := { S with kills := y }) (rb := w.heap.size + 1) X1.out X2.out X3.out (fun k hk => by have := HPN.out k hk; omega) HRX.out HBX.out (by omega)
  refine bodyPost_ret (results_cell_row rfl _ _ (w.heap.size + 1) 27 _ (0, 0) _ rfl y1 hu27 rfl (by first | rfl | decide)) rfl ?_
  exact ⟨_, rfl, y2.mono HPQ.out, y3⟩
theorem rkill_calls (w : World) (P : Nat → Prop) (s : St) (a i j : Int) (v : Value) (hv : EdV w P s v) (ok : OkS s) (hm : s.mark ≤ s.text.size) (hk16 : s.kills.length ≤ 16) (hi0 : 0 ≤ i) (hij : i < j) (hj : j ≤ s.text.size) :
    Calls Try.prog 47 #[v, .int .i64 i, .int .i64 j, .int .i64 a] w fun e w' => ∃ v', e = .returned v' ∧ EdV w' (fun k => P k ∨ w.heap.size ≤ k) (killS s a i j) v' ∧ Below w.heap.size w w' := by
  by_cases hjn : joins s (s.text.extract i.toNat j.toNat) = true
  · by_cases ha : a = 12 ∨ a = 14
    · exact rkill_front w P s a i j v hv ok hm hk16 hi0 hij hj ha hjn
    · exact rkill_back w P s a i j v hv ok hm hk16 hi0 hij hj ha hjn
  · have hjn' : joins s (s.text.extract i.toNat j.toNat) = false := by simpa using hjn
    have hc : killsB s.last = false ∨ (killsB s.last = true ∧ s.kills = []) ∨ (killsB s.last = true ∧ 0 < s.kills.length ∧ 4096 < ((lastOf s.kills).size : Int) + ((s.text.extract i.toNat j.toNat).size : Int)) := by
      by_cases h1 : killsB s.last = true
      · by_cases h2 : s.kills = []
        · exact .inr (.inl ⟨h1, h2⟩)
        · refine .inr (.inr ⟨h1, List.length_pos_iff.mpr h2, ?_⟩)
          unfold joins at hjn'
          have h3 : (!s.kills.isEmpty) = true := by simpa using h2
          rw [h1, h3, Bool.true_and, Bool.true_and] at hjn'
          exact Int.not_le.mp (of_decide_eq_false hjn')
      · exact .inl (by simpa using h1)
    rcases Nat.lt_or_eq_of_le hk16 with hd | hd
    · rcases hc with h | ⟨h, h2⟩ | ⟨h, h2, h3⟩
      · exact rkill_push_a w P s a i j v hv ok hm hk16 hi0 hij hj hjn' h hd
      · exact rkill_push_b w P s a i j v hv ok hm hk16 hi0 hij hj hjn' h h2 hd
      · exact rkill_push_c w P s a i j v hv ok hm hk16 hi0 hij hj hjn' h h2 h3 hd
    · rcases hc with h | ⟨h, h2⟩ | ⟨h, h2, h3⟩
      · exact rkill_shift_a w P s a i j v hv ok hm hk16 hi0 hij hj hjn' h hd
      · rw [h2] at hd; simp at hd
      · exact rkill_shift_c w P s a i j v hv ok hm hk16 hi0 hij hj hjn' h h2 h3 hd
set_option maxHeartbeats 16000000 in
set_option maxRecDepth 100000 in
theorem rkill_none (w : World) (P : Nat → Prop) (s : St) (a i : Int) (v : Value) (hv : EdV w P s v) :
    Calls Try.prog 47 #[v, .int .i64 i, .int .i64 i, .int .i64 a] w fun e w' => ∃ v', e = .returned v' ∧ EdV w' (fun k => P k ∨ w.heap.size ≤ k) (killS s a i i) v' ∧ Below w.heap.size w w' := by
  have hvo := hv.old
  obtain ⟨P0, hP0⟩ : ∃ Q : Nat → Prop, Q = fun k => P k ∧ k < w.heap.size := ⟨_, rfl⟩
  rw [← hP0] at hvo
  have hp1 : ∀ k, P0 k → P k ∧ k < w.heap.size := by intro k hk; rw [hP0] at hk; exact hk
  clear hP0
  obtain ⟨Ak, Au, Ar, ck, cu, cr, rfl, v1, v2, v3⟩ := hvo
  have hu27 := Try.underlying27
  have hu23 := Try.underlying23
  obtain ⟨w1, hw1⟩ : ∃ z, z = (w.alloc (.cells #[.string s.text, .int .i64 s.pos, .int .i64 s.mark, .slice Ak s.kills.length ck, .slice Au s.undo.length cu, .slice Ar s.redo.length cr, .string s.keys, .int .i64 s.last, .int .i64 s.line, .string s.saved] 27)).alloc (.cells #[.string ⟨#[]⟩, .int .i64 0, .int .i64 0, .slice none 0 0, .slice none 0 0, .slice none 0 0, .string ⟨#[]⟩, .int .i64 0, .int .i64 0, .string ⟨#[]⟩] 27) := ⟨_, rfl⟩
  obtain ⟨b1, b2, b3, b4⟩ := box2 w #[.string s.text, .int .i64 s.pos, .int .i64 s.mark, .slice Ak s.kills.length ck, .slice Au s.undo.length cu, .slice Ar s.redo.length cr, .string s.keys, .int .i64 s.last, .int .i64 s.line, .string s.saved] #[.string ⟨#[]⟩, .int .i64 0, .int .i64 0, .slice none 0 0, .slice none 0 0, .slice none 0 0, .string ⟨#[]⟩, .int .i64 0, .int .i64 0, .string ⟨#[]⟩] 27 27
  rw [← hw1] at b1 b2 b3 b4
  have HE := Aside0.mk b1
  have HR := Aside0.mk b2
  have HB1 := Aside0.mk b3
  have HSZ := Aside0.mk b4
  have HP1 := Aside0.mk hp1
  have HW1 := Aside0.mk hw1
  have HV := Aside0.mk (show EdV w1 P0 s (edV s (.slice Ak s.kills.length ck) (.slice Au s.undo.length cu) (.slice Ar s.redo.length cr)) from ⟨Ak, Au, Ar, ck, cu, cr, rfl, Kd.V_below v1 b3, Kd.V_below v2 b3, Kd.V_below v3 b3⟩)
  have K1 := Aside0.mk (Kd.V_below v1 b3)
  have K2 := Aside0.mk (Kd.V_below v2 b3)
  have K3 := Aside0.mk (Kd.V_below v3 b3)
  unfold edV at HV hv ⊢
  obtain ⟨d0, d1, d2, d3, d4, d5, d6, d7, d8, d9⟩ := Box.cells (s := s) b1
  clear hv v1 v2 v3 hw1 b1 b2 b3 b4 hp1
  clear d0 d1 d2 d3 d4 d5 d6 d7 d8 d9
  have hz : killS s a i i = s := by unfold killS; rw [if_neg (by omega)]
  rw [hz]
  have q0 : (i == i) = true := beq_iff_eq.mpr rfl
  clear hz
  go_enter Try.func47, Try.ntmps47
  go_upto_region 1 with (fail)
  rw [← HW1.out]
  have hqe := blk_frozen HE.out
  obtain ⟨d0, d1, d2, d3, d4, d5, d6, d7, d8, d9⟩ := Box.cells (s := s) HE.out
  have hqr := blk_frozen HR.out
  obtain ⟨r0, r1, r2, r3, r4, r5, r6, r7, r8, r9⟩ := ten_cells HR.out
  go_wp2_with (fail)
  obtain ⟨y1, y2, y3⟩ := put_edV (w := w) (s := s) (rb := w.heap.size + 1) K1.out K2.out K3.out (fun k hk => by have := (HP1.out k hk).2; omega) HR.out HB1.out (by omega)
  refine bodyPost_ret (results_cell_row rfl _ _ (w.heap.size + 1) 27 _ (0, 0) _ rfl y1 hu27 rfl (by first | rfl | decide)) rfl ?_
  exact ⟨_, rfl, y2.mono (fun k hk => .inl (HP1.out k hk).1), y3⟩
end Go.Proofs.Ytlbbjdggebgabaa.P
end
