/- Texts of this claim, joined: E7, E8, E9, F0, F1, F2, F3, F4, F5, F6, F7, F8. -/
import Derived.Test.YtlbbjdggebgabaaRDM3
import Derived.Deep.RegionHeld3
import Derived.Lib.ConvBytes
import Derived.Laws.BytesArg
import Derived.Lib.AtoiErrMem
import Derived.Deep.RegionHeld
import Derived.StillTailTactics
section
/- The editor's worker: the words' ends. -/
namespace Go.Proofs.Ytlbbjdggebgabaa.P
open Go.RowKit Go.Proofs.YtlbbjdggebgabaaW.PrintWords Go.Proofs.YtlbbjdggebgabaaW.PrintLast Go.Proofs.YtlbbjdggebgabaaW.PrintMore
set_option linter.unusedVariables false
set_option linter.unusedSimpArgs false

def letterI (c : Int) : Bool := (decide (97 ≤ c) && decide (c ≤ 122)) || (decide (65 ≤ c) && decide (c ≤ 90)) || (decide (48 ≤ c) && decide (c ≤ 57)) || c == 95
theorem letter_f (c : Int) : editor_letter.f c = some (letterI c) := by
  unfold editor_letter.f letterI
  repeat' split
  all_goals simp_all
  all_goals omega
/-- The first place from i on where a byte is not of a kind, within n places. -/
def fwd (p : Int → Bool) (t : ByteArray) : Nat → Nat → Nat
  | 0, i => i
  | n + 1, i => if i < t.size ∧ p (bt t i) = true then fwd p t n (i + 1) else i
def bwd (p : Int → Bool) (t : ByteArray) : Nat → Nat
  | 0 => 0
  | i + 1 => if p (bt t i) = true then bwd p t i else i + 1
def wordEndS (t : ByteArray) (i : Nat) : Nat := fwd letterI t t.size (fwd (fun c => !letterI c) t t.size i)
def wordStartS (t : ByteArray) (i : Nat) : Nat := bwd letterI t (bwd (fun c => !letterI c) t i)
theorem fwd_ge (p : Int → Bool) (t : ByteArray) : ∀ n i, i ≤ fwd p t n i
  | 0, i => Nat.le_refl _
  | n + 1, i => by
    rw [fwd]
    split
    · exact Nat.le_trans (Nat.le_succ i) (fwd_ge p t n (i + 1))
    · exact Nat.le_refl _
theorem fwd_le (p : Int → Bool) (t : ByteArray) : ∀ n i, i ≤ t.size → fwd p t n i ≤ t.size
  | 0, i, h => h
  | n + 1, i, h => by
    rw [fwd]
    split
    · rename_i hc; exact fwd_le p t n (i + 1) (by omega)
    · exact h

set_option maxHeartbeats 4000000 in
set_option maxRecDepth 100000 in
theorem wordEnd_calls (w : World) (g : Nat) (s : St) (vk vu vr vl : Value) (n : Nat) (hn : s.pos = (n : Int)) (hI : Blk w g s vk vu vr vl) (h1 : n ≤ s.text.size) (hs : s.text.size ≤ 1000000) :
    Calls Try.prog 36 #[.pointer (some ⟨g, 0, none⟩)] w fun e w' => e = .returned (.int .i64 ((wordEndS s.text n : Nat) : Int)) ∧ ∃ m, w' = w.drewN m := by
  obtain ⟨c0, c1, c2, c3, c4, c5, c6, c7, c8, c9, c10, c11⟩ := hI.cells
  rw [hn] at c1
  clear hI c2 c3 c4 c5 c6 c7 c8 c9 c10 c11
  go_enter Try.func36, Try.ntmps36
  go_wp2
  go_loopg [3] s.text.size (fun kq v3 wr => ∃ i : Nat, v3 = .int .i64 (i : Int) ∧ Aside0 (i ≤ s.text.size) ∧ Aside0 (s.text.size ≤ i + kq) ∧ Aside0 (fwd (fun c => !letterI c) s.text kq i = fwd (fun c => !letterI c) s.text s.text.size n) ∧ Aside0 (∃ m, wr = w.drewN m))
  case atStart => exact ⟨n, rfl, ⟨h1⟩, ⟨by omega⟩, ⟨rfl⟩, ⟨0, rfl⟩⟩
  case round =>
    obtain ⟨i, rfl, HL, HK, HF, ⟨m, rfl⟩⟩ := hrel
    have L := HL.out
    have K := HK.out
    have F := HF.out
    by_cases hc : i < s.text.size ∧ letterI (bt s.text i) = false
    · obtain ⟨hi, hl⟩ := hc
      cases gk with
      | zero => omega
      | succ k1 =>
        rw [fwd, if_pos ⟨hi, by rw [hl]; rfl⟩] at F
        have HF2 := Aside0.mk F
        have q1 : (i : Int) < (s.text.size : Int) := by omega
        have q2 : ∀ h : i < s.text.size, ((s.text[i]'h).toNat : Int) = bt s.text i := bt_at s.text (i : Int)
        have q3 := eq_true hi
        clear F K L HF
        go_wp2_with (first | (go_at_call 58; refine (editor_letter.calls _ false _ ?hlf).mono ?_; (case hlf => rw [letter_f, hl]); rintro e w2 ⟨rfl, ⟨m2, rfl⟩⟩))
        go_roundg k1
        case measure => omega
        case rel => exact ⟨i + 1, by push_cast; rfl, ⟨by omega⟩, ⟨by have := HK.out; omega⟩, HF2, ⟨_, rfl⟩⟩
    · have hend : fwd (fun c => !letterI c) s.text s.text.size n = i := by
        rw [← F]
        cases gk with
        | zero => rfl
        | succ k1 => rw [fwd, if_neg (fun h => hc ⟨h.1, by simpa using h.2⟩)]
      have HE := Aside0.mk hend
      clear F K HF HK hend
      have hc2 : ¬ i < s.text.size ∨ (i < s.text.size ∧ letterI (bt s.text i) = true) := by
        by_cases hi : i < s.text.size
        · exact .inr ⟨hi, by cases h : letterI (bt s.text i) <;> simp_all⟩
        · exact .inl hi
      clear hc
      rcases hc2 with hi | ⟨hi, hl⟩
      · have q1 : ¬ (i : Int) < (s.text.size : Int) := by omega
        go_wp2
        clear q1
        go_loopg [3] s.text.size (fun kq v3 wr => ∃ j : Nat, v3 = .int .i64 (j : Int) ∧ Aside0 (j ≤ s.text.size) ∧ Aside0 (s.text.size ≤ j + kq) ∧ Aside0 (fwd letterI s.text kq j = wordEndS s.text n) ∧ Aside0 (∃ m, wr = w.drewN m))
        case atStart => exact ⟨i, rfl, HL, ⟨by omega⟩, ⟨by unfold wordEndS; rw [HE.out]⟩, ⟨_, rfl⟩⟩
        case round =>
          obtain ⟨j, rfl, HJ, HK2, HF2, ⟨m3, rfl⟩⟩ := hrel
          have L2 := HJ.out
          have K2 := HK2.out
          have F2 := HF2.out
          clear hi
          by_cases hj : j < s.text.size
          · have q1 : (j : Int) < (s.text.size : Int) := by omega
            have q2 : ∀ h : j < s.text.size, ((s.text[j]'h).toNat : Int) = bt s.text j := bt_at s.text (j : Int)
            have q3 := eq_true hj
            by_cases hl2 : letterI (bt s.text j) = true
            · cases gk with
              | zero => omega
              | succ k1 =>
                rw [fwd, if_pos ⟨hj, hl2⟩] at F2
                have HF3 := Aside0.mk F2
                clear F2 K2 L2 HF2
                go_wp2_with (first | (go_at_call 58; refine (editor_letter.calls _ true _ ?hlf).mono ?_; (case hlf => rw [letter_f, hl2]); rintro e w2 ⟨rfl, ⟨m2, rfl⟩⟩))
                go_roundg k1
                case measure => omega
                case rel => exact ⟨j + 1, by push_cast; rfl, ⟨by omega⟩, ⟨by have := HK2.out; omega⟩, HF3, ⟨_, rfl⟩⟩
            · have hl3 : letterI (bt s.text j) = false := by simpa using hl2
              have hres : wordEndS s.text n = j := by
                rw [← F2]
                cases gk with
                | zero => rfl
                | succ k1 => rw [fwd, if_neg (fun h => hl2 h.2)]
              have HRES := Aside0.mk hres
              clear F2 K2 L2 HF2 hl2 hres
              go_wp2_with (first | (go_at_call 58; refine (editor_letter.calls _ false _ ?hlf).mono ?_; (case hlf => rw [letter_f, hl3]); rintro e w2 ⟨rfl, ⟨m2, rfl⟩⟩))
              go_ret
              exact ⟨by rw [HRES.out]; rfl, _, rfl⟩
          · have hres : wordEndS s.text n = j := by
              rw [← F2]
              cases gk with
              | zero => rfl
              | succ k1 => rw [fwd, if_neg (fun h => hj h.1)]
            have q1 : ¬ (j : Int) < (s.text.size : Int) := by omega
            have HRES := Aside0.mk hres
            clear F2 K2 L2 HF2 hres
            go_wp2
            go_ret
            exact ⟨by rw [HRES.out]; rfl, _, rfl⟩
      · have q1 : (i : Int) < (s.text.size : Int) := by omega
        have q2 : ∀ h : i < s.text.size, ((s.text[i]'h).toNat : Int) = bt s.text i := bt_at s.text (i : Int)
        have q3 := eq_true hi
        go_wp2_with (first | (go_at_call 58; refine (editor_letter.calls _ true _ ?hlf).mono ?_; (case hlf => rw [letter_f, hl]); rintro e w2 ⟨rfl, ⟨m2, rfl⟩⟩))
        clear q1 q2 q3 hl
        go_loopg [3] s.text.size (fun kq v3 wr => ∃ j : Nat, v3 = .int .i64 (j : Int) ∧ Aside0 (j ≤ s.text.size) ∧ Aside0 (s.text.size ≤ j + kq) ∧ Aside0 (fwd letterI s.text kq j = wordEndS s.text n) ∧ Aside0 (∃ m, wr = w.drewN m))
        case atStart => exact ⟨i, rfl, HL, ⟨by omega⟩, ⟨by unfold wordEndS; rw [HE.out]⟩, ⟨_, rfl⟩⟩
        case round =>
          obtain ⟨j, rfl, HJ, HK2, HF2, ⟨m3, rfl⟩⟩ := hrel
          have L2 := HJ.out
          have K2 := HK2.out
          have F2 := HF2.out
          clear hi
          by_cases hj : j < s.text.size
          · have q1 : (j : Int) < (s.text.size : Int) := by omega
            have q2 : ∀ h : j < s.text.size, ((s.text[j]'h).toNat : Int) = bt s.text j := bt_at s.text (j : Int)
            have q3 := eq_true hj
            by_cases hl2 : letterI (bt s.text j) = true
            · cases gk with
              | zero => omega
              | succ k1 =>
                rw [fwd, if_pos ⟨hj, hl2⟩] at F2
                have HF3 := Aside0.mk F2
                clear F2 K2 L2 HF2
                go_wp2_with (first | (go_at_call 58; refine (editor_letter.calls _ true _ ?hlf).mono ?_; (case hlf => rw [letter_f, hl2]); rintro e w2 ⟨rfl, ⟨m2, rfl⟩⟩))
                go_roundg k1
                case measure => omega
                case rel => exact ⟨j + 1, by push_cast; rfl, ⟨by omega⟩, ⟨by have := HK2.out; omega⟩, HF3, ⟨_, rfl⟩⟩
            · have hl3 : letterI (bt s.text j) = false := by simpa using hl2
              have hres : wordEndS s.text n = j := by
                rw [← F2]
                cases gk with
                | zero => rfl
                | succ k1 => rw [fwd, if_neg (fun h => hl2 h.2)]
              have HRES := Aside0.mk hres
              clear F2 K2 L2 HF2 hl2 hres
              go_wp2_with (first | (go_at_call 58; refine (editor_letter.calls _ false _ ?hlf).mono ?_; (case hlf => rw [letter_f, hl3]); rintro e w2 ⟨rfl, ⟨m2, rfl⟩⟩))
              go_ret
              exact ⟨by rw [HRES.out]; rfl, _, rfl⟩
          · have hres : wordEndS s.text n = j := by
              rw [← F2]
              cases gk with
              | zero => rfl
              | succ k1 => rw [fwd, if_neg (fun h => hj h.1)]
            have q1 : ¬ (j : Int) < (s.text.size : Int) := by omega
            have HRES := Aside0.mk hres
            clear F2 K2 L2 HF2 hres
            go_wp2
            go_ret
            exact ⟨by rw [HRES.out]; rfl, _, rfl⟩
end Go.Proofs.Ytlbbjdggebgabaa.P
end

section
/- The editor's worker: the last word's beginning. -/
namespace Go.Proofs.Ytlbbjdggebgabaa.P
open Go.RowKit Go.Proofs.YtlbbjdggebgabaaW.PrintWords Go.Proofs.YtlbbjdggebgabaaW.PrintLast Go.Proofs.YtlbbjdggebgabaaW.PrintMore
set_option linter.unusedVariables false
set_option linter.unusedSimpArgs false

theorem bwd_le (p : Int → Bool) (t : ByteArray) : ∀ i, bwd p t i ≤ i
  | 0 => Nat.le_refl _
  | i + 1 => by
    rw [bwd]
    split
    · exact Nat.le_trans (bwd_le p t i) (Nat.le_succ i)
    · exact Nat.le_refl _

set_option maxHeartbeats 4000000 in
set_option maxRecDepth 100000 in
theorem wordStart_calls (w : World) (g : Nat) (s : St) (vk vu vr vl : Value) (n : Nat) (hn : s.pos = (n : Int)) (hI : Blk w g s vk vu vr vl) (h1 : n ≤ s.text.size) (hs : s.text.size ≤ 1000000) :
    Calls Try.prog 35 #[.pointer (some ⟨g, 0, none⟩)] w fun e w' => e = .returned (.int .i64 ((wordStartS s.text n : Nat) : Int)) ∧ ∃ m, w' = w.drewN m := by
  obtain ⟨c0, c1, c2, c3, c4, c5, c6, c7, c8, c9, c10, c11⟩ := hI.cells
  rw [hn] at c1
  clear hI c2 c3 c4 c5 c6 c7 c8 c9 c10 c11
  go_enter Try.func35, Try.ntmps35
  go_wp2
  go_loopg [3] n (fun kq v3 wr => ∃ i : Nat, v3 = .int .i64 (i : Int) ∧ Aside0 (i ≤ s.text.size) ∧ Aside0 (i ≤ kq) ∧ Aside0 (bwd (fun c => !letterI c) s.text i = bwd (fun c => !letterI c) s.text n) ∧ Aside0 (∃ m, wr = w.drewN m))
  case atStart => exact ⟨n, rfl, ⟨h1⟩, ⟨Nat.le_refl _⟩, ⟨rfl⟩, ⟨0, rfl⟩⟩
  case round =>
    obtain ⟨i, rfl, HL, HK, HF, ⟨m, rfl⟩⟩ := hrel
    have L := HL.out
    have K := HK.out
    have F := HF.out
    by_cases hc : 0 < i ∧ letterI (bt s.text ((i - 1 : Nat) : Int)) = false
    · obtain ⟨hi, hl⟩ := hc
      obtain ⟨i', rfl⟩ : ∃ i', i = i' + 1 := ⟨i - 1, by omega⟩
      rw [Nat.add_sub_cancel] at hl
      cases gk with
      | zero => omega
      | succ k1 =>
        rw [bwd, if_pos (by rw [hl]; rfl)] at F
        have HF2 := Aside0.mk F
        have q1 : i' < s.text.size := by omega
        have q2 : ∀ h : i' < s.text.size, ((s.text[i']'h).toNat : Int) = bt s.text i' := bt_at s.text (i' : Int)
        have q3 := eq_true q1
        have q4 : (0 : Int) < (i' : Int) + 1 := by omega
        clear F K L HF
        go_wp2_with (first | (go_at_call 58; refine (editor_letter.calls _ false _ ?hlf).mono ?_; (case hlf => rw [letter_f, hl]); rintro e w2 ⟨rfl, ⟨m2, rfl⟩⟩))
        go_roundg k1
        case measure => omega
        case rel => exact ⟨i', by first | rfl | (push_cast; congr 1; omega), ⟨by omega⟩, ⟨by have := HK.out; omega⟩, HF2, ⟨_, rfl⟩⟩
    · have hend : bwd (fun c => !letterI c) s.text n = i := by
        rw [← F]
        cases i with
        | zero => rfl
        | succ i' =>
          rw [bwd, if_neg]
          intro h
          exact hc ⟨by omega, by simpa using h⟩
      have HE := Aside0.mk hend
      clear F K HF HK hend
      cases i with
      | zero =>
        clear hc
        go_wp2
        go_loopg [3] n (fun kq v3 wr => ∃ j : Nat, v3 = .int .i64 (j : Int) ∧ Aside0 (j ≤ s.text.size) ∧ Aside0 (j ≤ kq) ∧ Aside0 (bwd letterI s.text j = wordStartS s.text n) ∧ Aside0 (∃ m, wr = w.drewN m))
        case atStart => exact ⟨0, by first | rfl | (push_cast; rfl), HL, ⟨by have := bwd_le (fun c => !letterI c) s.text n; have := HE.out; omega⟩, ⟨by unfold wordStartS; rw [HE.out]⟩, ⟨_, rfl⟩⟩
        case round =>
          obtain ⟨j, rfl, HJ, HK2, HF2, ⟨m3, rfl⟩⟩ := hrel
          have L2 := HJ.out
          have K2 := HK2.out
          have F2 := HF2.out
          cases j with
          | zero =>
            have HRES := Aside0.mk (show wordStartS s.text n = 0 from by rw [← F2]; rfl)
            clear F2 K2 L2 HF2
            go_wp2
            go_ret
            exact ⟨by rw [HRES.out]; rfl, _, rfl⟩
          | succ j' =>
            have q1 : j' < s.text.size := by omega
            have q2 : ∀ h : j' < s.text.size, ((s.text[j']'h).toNat : Int) = bt s.text j' := bt_at s.text (j' : Int)
            have q3 := eq_true q1
            have q4 : (0 : Int) < (j' : Int) + 1 := by omega
            by_cases hl2 : letterI (bt s.text j') = true
            · cases gk with
              | zero => omega
              | succ k1 =>
                rw [bwd, if_pos hl2] at F2
                have HF3 := Aside0.mk F2
                clear F2 K2 L2 HF2
                go_wp2_with (first | (go_at_call 58; refine (editor_letter.calls _ true _ ?hlf).mono ?_; (case hlf => rw [letter_f, hl2]); rintro e w2 ⟨rfl, ⟨m2, rfl⟩⟩))
                go_roundg k1
                case measure => omega
                case rel => exact ⟨j', by first | rfl | (push_cast; congr 1; omega), ⟨by omega⟩, ⟨by have := HK2.out; omega⟩, HF3, ⟨_, rfl⟩⟩
            · have hl3 : letterI (bt s.text j') = false := by simpa using hl2
              have HRES := Aside0.mk (show wordStartS s.text n = j' + 1 from by rw [← F2, bwd, if_neg hl2])
              clear F2 K2 L2 HF2 hl2
              go_wp2_with (first | (go_at_call 58; refine (editor_letter.calls _ false _ ?hlf).mono ?_; (case hlf => rw [letter_f, hl3]); rintro e w2 ⟨rfl, ⟨m2, rfl⟩⟩))
              go_ret
              exact ⟨by rw [HRES.out]; rfl, _, rfl⟩
      | succ i' =>
        have hl : letterI (bt s.text i') = true := by
          cases h : letterI (bt s.text i') with
          | true => rfl
          | false => exact absurd ⟨by omega, by rw [Nat.add_sub_cancel]; exact h⟩ hc
        have q1 : i' < s.text.size := by omega
        have q2 : ∀ h : i' < s.text.size, ((s.text[i']'h).toNat : Int) = bt s.text i' := bt_at s.text (i' : Int)
        have q3 := eq_true q1
        have q4 : (0 : Int) < (i' : Int) + 1 := by omega
        clear hc
        go_wp2_with (first | (go_at_call 58; refine (editor_letter.calls _ true _ ?hlf).mono ?_; (case hlf => rw [letter_f, hl]); rintro e w2 ⟨rfl, ⟨m2, rfl⟩⟩))
        clear q1 q2 q3 q4 hl
        go_loopg [3] n (fun kq v3 wr => ∃ j : Nat, v3 = .int .i64 (j : Int) ∧ Aside0 (j ≤ s.text.size) ∧ Aside0 (j ≤ kq) ∧ Aside0 (bwd letterI s.text j = wordStartS s.text n) ∧ Aside0 (∃ m, wr = w.drewN m))
        case atStart => exact ⟨i' + 1, by first | rfl | (push_cast; rfl), HL, ⟨by have := bwd_le (fun c => !letterI c) s.text n; have := HE.out; omega⟩, ⟨by unfold wordStartS; rw [HE.out]⟩, ⟨_, rfl⟩⟩
        case round =>
          obtain ⟨j, rfl, HJ, HK2, HF2, ⟨m3, rfl⟩⟩ := hrel
          have L2 := HJ.out
          have K2 := HK2.out
          have F2 := HF2.out
          cases j with
          | zero =>
            have HRES := Aside0.mk (show wordStartS s.text n = 0 from by rw [← F2]; rfl)
            clear F2 K2 L2 HF2
            go_wp2
            go_ret
            exact ⟨by rw [HRES.out]; rfl, _, rfl⟩
          | succ j' =>
            have q1 : j' < s.text.size := by omega
            have q2 : ∀ h : j' < s.text.size, ((s.text[j']'h).toNat : Int) = bt s.text j' := bt_at s.text (j' : Int)
            have q3 := eq_true q1
            have q4 : (0 : Int) < (j' : Int) + 1 := by omega
            by_cases hl2 : letterI (bt s.text j') = true
            · cases gk with
              | zero => omega
              | succ k1 =>
                rw [bwd, if_pos hl2] at F2
                have HF3 := Aside0.mk F2
                clear F2 K2 L2 HF2
                go_wp2_with (first | (go_at_call 58; refine (editor_letter.calls _ true _ ?hlf).mono ?_; (case hlf => rw [letter_f, hl2]); rintro e w2 ⟨rfl, ⟨m2, rfl⟩⟩))
                go_roundg k1
                case measure => omega
                case rel => exact ⟨j', by first | rfl | (push_cast; congr 1; omega), ⟨by omega⟩, ⟨by have := HK2.out; omega⟩, HF3, ⟨_, rfl⟩⟩
            · have hl3 : letterI (bt s.text j') = false := by simpa using hl2
              have HRES := Aside0.mk (show wordStartS s.text n = j' + 1 from by rw [← F2, bwd, if_neg hl2])
              clear F2 K2 L2 HF2 hl2
              go_wp2_with (first | (go_at_call 58; refine (editor_letter.calls _ false _ ?hlf).mono ?_; (case hlf => rw [letter_f, hl3]); rintro e w2 ⟨rfl, ⟨m2, rfl⟩⟩))
              go_ret
              exact ⟨by rw [HRES.out]; rfl, _, rfl⟩
end Go.Proofs.Ytlbbjdggebgabaa.P
end

section
/- The editor's worker: move. -/
namespace Go.Proofs.Ytlbbjdggebgabaa.P
open Go.RowKit Go.Proofs.YtlbbjdggebgabaaW.PrintWords Go.Proofs.YtlbbjdggebgabaaW.PrintLast Go.Proofs.YtlbbjdggebgabaaW.PrintMore
set_option linter.unusedVariables false
set_option linter.unusedSimpArgs false

def moves (a : Int) : Bool := a == 3 || a == 4 || a == 5 || a == 6 || a == 7 || a == 8 || a == 25 || a == 26
def moveS (s : St) (a : Int) : St :=
  if a = 3 then { s with pos := if 0 < s.pos - 1 then s.pos - 1 else 0 }
  else if a = 4 then { s with pos := if s.pos + 1 < (s.text.size : Int) then s.pos + 1 else (s.text.size : Int) }
  else if a = 5 then { s with pos := 0 }
  else if a = 6 then { s with pos := (s.text.size : Int) }
  else if a = 7 then { s with pos := ((wordStartS s.text s.pos.toNat : Nat) : Int) }
  else if a = 8 then { s with pos := ((wordEndS s.text s.pos.toNat : Nat) : Int) }
  else if a = 25 then { s with mark := s.pos }
  else if a = 26 then { s with pos := s.mark, mark := s.pos } else s

set_option maxHeartbeats 8000000 in
set_option maxRecDepth 100000 in
theorem move_calls (w0 w : World) (g : Nat) (s : St) (vk vu vr vl : Value) (a : Int) (n : Nat) (hn : s.pos = (n : Int)) (hI : Blk w g s vk vu vr vl) (h1 : n ≤ s.text.size) (hs : s.text.size ≤ 1000000) (hg : w0.heap.size ≤ g) (hB : Below w0.heap.size w0 w) :
    Calls Try.prog 28 #[.pointer (some ⟨g, 0, none⟩), .int .i64 a] w fun e w' => e = .returned (.bool (moves a)) ∧ Blk w' g (moveS s a) vk vu vr vl ∧ Below w0.heap.size w0 w' ∧ KeepBut w w' g none := by
  obtain ⟨c0, c1, c2, c3, c4, c5, c6, c7, c8, c9, c10, c11⟩ := hI.cells
  obtain ⟨f0, f1, f2, f3, f4, f5, f6, f7, f8, f9⟩ := hI.frozen
  have hp0 : 0 ≤ s.pos := by omega
  have hp1 : s.pos ≤ s.text.size := by omega
  have HN := Aside0.mk hn
  clear hn
  have HI := Aside0.mk hI
  have HB := Aside0.mk hB
  have KP := Aside0.mk (KeepBut.refl w g none)
  clear hI hB
  by_cases a3 : a = 3
  · subst a3
    by_cases hx : 0 < s.pos - 1
    · rw [show moveS s 3 = { s with pos := s.pos - 1 } from by unfold moveS; rw [if_pos rfl, if_pos hx]]
      go_enter Try.func28, Try.ntmps28
      go_wp2
      go_quiet (fail)
      go_wp2
      go_ret
      exact ⟨rfl, (HI.out.below (pw_below_drewN (Below.refl _ _) nq)).set1 _, below_set (pw_below_drewN HB.out nq) hg, (keep_drewN KP.out nq).set_ _ _⟩
    · rw [show moveS s 3 = { s with pos := 0 } from by unfold moveS; rw [if_pos rfl, if_neg hx]]
      go_enter Try.func28, Try.ntmps28
      go_wp2
      go_quiet (fail)
      go_wp2
      go_ret
      exact ⟨rfl, (HI.out.below (pw_below_drewN (Below.refl _ _) nq)).set1 _, below_set (pw_below_drewN HB.out nq) hg, (keep_drewN KP.out nq).set_ _ _⟩
  by_cases a4 : a = 4
  · subst a4
    by_cases hx : s.pos + 1 < (s.text.size : Int)
    · rw [show moveS s 4 = { s with pos := s.pos + 1 } from by unfold moveS; rw [if_neg (by decide), if_pos rfl, if_pos hx]]
      go_enter Try.func28, Try.ntmps28
      go_wp2
      go_quiet (fail)
      go_wp2
      go_ret
      exact ⟨rfl, (HI.out.below (pw_below_drewN (Below.refl _ _) nq)).set1 _, below_set (pw_below_drewN HB.out nq) hg, (keep_drewN KP.out nq).set_ _ _⟩
    · rw [show moveS s 4 = { s with pos := (s.text.size : Int) } from by unfold moveS; rw [if_neg (by decide), if_pos rfl, if_neg hx]]
      go_enter Try.func28, Try.ntmps28
      go_wp2
      go_quiet (fail)
      go_wp2
      go_ret
      exact ⟨rfl, (HI.out.below (pw_below_drewN (Below.refl _ _) nq)).set1 _, below_set (pw_below_drewN HB.out nq) hg, (keep_drewN KP.out nq).set_ _ _⟩
  by_cases a5 : a = 5
  · subst a5 
    go_enter Try.func28, Try.ntmps28
    go_wp2
    go_quiet (fail)
    go_wp2
    go_ret
    exact ⟨rfl, (HI.out.below (pw_below_drewN (Below.refl _ _) nq)).set1 _, below_set (pw_below_drewN HB.out nq) hg, (keep_drewN KP.out nq).set_ _ _⟩
  by_cases a6 : a = 6
  · subst a6 
    go_enter Try.func28, Try.ntmps28
    go_wp2
    go_quiet (fail)
    go_wp2
    go_ret
    exact ⟨rfl, (HI.out.below (pw_below_drewN (Below.refl _ _) nq)).set1 _, below_set (pw_below_drewN HB.out nq) hg, (keep_drewN KP.out nq).set_ _ _⟩
  by_cases a7 : a = 7
  · subst a7 
    go_enter Try.func28, Try.ntmps28
    go_wp2
    go_quiet (fail)
    go_wp2_with (first | (go_at_call 35; refine (wordStart_calls (w.drewN nq) g s vk vu vr vl n HN.out (HI.out.below (pw_below_drewN (Below.refl _ _) nq)) h1 hs).mono ?_; rintro e w2 ⟨rfl, ⟨m2, rfl⟩⟩))
    go_ret
    have h : s.pos.toNat = n := by have := HN.out; omega
    have HM := (HI.out.below (pw_below_drewN (Below.refl _ _) (nq + m2))).set1 ((wordStartS s.text n : Nat) : Int)
    have hms : moveS s 7 = { s with pos := ((wordStartS s.text n : Nat) : Int) } := by simp [moveS, h]
    rw [hms]
    exact ⟨rfl, HM, below_set (pw_below_drewN HB.out (nq + m2)) hg, (keep_drewN KP.out (nq + m2)).set_ _ _⟩
  by_cases a8 : a = 8
  · subst a8 
    go_enter Try.func28, Try.ntmps28
    go_wp2
    go_quiet (fail)
    go_wp2_with (first | (go_at_call 36; refine (wordEnd_calls (w.drewN nq) g s vk vu vr vl n HN.out (HI.out.below (pw_below_drewN (Below.refl _ _) nq)) h1 hs).mono ?_; rintro e w2 ⟨rfl, ⟨m2, rfl⟩⟩))
    go_ret
    have h : s.pos.toNat = n := by have := HN.out; omega
    have HM := (HI.out.below (pw_below_drewN (Below.refl _ _) (nq + m2))).set1 ((wordEndS s.text n : Nat) : Int)
    have hms : moveS s 8 = { s with pos := ((wordEndS s.text n : Nat) : Int) } := by simp [moveS, h]
    rw [hms]
    exact ⟨rfl, HM, below_set (pw_below_drewN HB.out (nq + m2)) hg, (keep_drewN KP.out (nq + m2)).set_ _ _⟩
  by_cases a25 : a = 25
  · subst a25 
    go_enter Try.func28, Try.ntmps28
    go_wp2
    go_quiet (fail)
    go_wp2
    go_ret
    rw [show moveS s 25 = { s with mark := s.pos } from by simp [moveS]]
    exact ⟨rfl, (HI.out.below (pw_below_drewN (Below.refl _ _) nq)).set2 _, below_set (pw_below_drewN HB.out nq) hg, (keep_drewN KP.out nq).set_ _ _⟩
  by_cases a26 : a = 26
  · subst a26 
    go_enter Try.func28, Try.ntmps28
    go_wp2
    go_quiet (fail)
    go_wp2
    go_ret
    rw [show moveS s 26 = { s with pos := s.mark, mark := s.pos } from by simp [moveS]]
    exact ⟨rfl, ((HI.out.below (pw_below_drewN (Below.refl _ _) nq)).set1 _).set2 _, below_set (below_set (pw_below_drewN HB.out nq) hg) hg, ((keep_drewN KP.out nq).set_ _ _).set_ _ _⟩
  have b3 : (a == 3) = false := beq_eq_false_iff_ne.mpr a3
  have b4 : (a == 4) = false := beq_eq_false_iff_ne.mpr a4
  have b5 : (a == 5) = false := beq_eq_false_iff_ne.mpr a5
  have b6 : (a == 6) = false := beq_eq_false_iff_ne.mpr a6
  have b7 : (a == 7) = false := beq_eq_false_iff_ne.mpr a7
  have b8 : (a == 8) = false := beq_eq_false_iff_ne.mpr a8
  have b25 : (a == 25) = false := beq_eq_false_iff_ne.mpr a25
  have b26 : (a == 26) = false := beq_eq_false_iff_ne.mpr a26
  have hm : moves a = false := by simp [moves, b3, b4, b5, b6, b7, b8, b25, b26]
  have hs' : moveS s a = s := by simp [moveS, a3, a4, a5, a6, a7, a8, a25, a26]
  rw [hm, hs']
  go_enter Try.func28, Try.ntmps28
  go_wp2
  go_quiet (fail)
  go_wp2
  go_ret
  exact ⟨rfl, (HI.out.below (pw_below_drewN (Below.refl _ _) nq)), (pw_below_drewN HB.out nq), (keep_drewN KP.out nq)⟩
end Go.Proofs.Ytlbbjdggebgabaa.P
end

section
/- The editor's begin. -/
namespace Go.Proofs.Ytlbbjdggebgabaa.P
open Go.RowKit Go.Proofs.YtlbbjdggebgabaaW.PrintWords Go.Proofs.YtlbbjdggebgabaaW.PrintLast Go.Proofs.YtlbbjdggebgabaaW.PrintMore
set_option linter.unusedVariables false
set_option linter.unusedSimpArgs false

/-- The box of an editor's value. -/
def Box (w : World) (b : Nat) (s : St) (vk vu vr : Value) : Prop :=
  w.heap[b]? = some (.cells #[.string s.text, .int .i64 s.pos, .int .i64 s.mark, vk, vu, vr, .string s.keys, .int .i64 s.last, .int .i64 s.line, .string s.saved] 27 (0, 0))
theorem Box.cells {w : World} {b : Nat} {s : St} {vk vu vr : Value} (h : Box w b s vk vu vr) : w.cell? ⟨b, 0, none⟩ = some (.string s.text) ∧ w.cell? ⟨b, 1, none⟩ = some (.int .i64 s.pos) ∧ w.cell? ⟨b, 2, none⟩ = some (.int .i64 s.mark) ∧ w.cell? ⟨b, 3, none⟩ = some vk ∧ w.cell? ⟨b, 4, none⟩ = some vu ∧ w.cell? ⟨b, 5, none⟩ = some vr ∧
    w.cell? ⟨b, 6, none⟩ = some (.string s.keys) ∧ w.cell? ⟨b, 7, none⟩ = some (.int .i64 s.last) ∧ w.cell? ⟨b, 8, none⟩ = some (.int .i64 s.line) ∧ w.cell? ⟨b, 9, none⟩ = some (.string s.saved) := by
  refine ⟨?_, ?_, ?_, ?_, ?_, ?_, ?_, ?_, ?_, ?_⟩ <;> exact (blk_cell h _).trans rfl
theorem Box.frozen {w : World} {b : Nat} {s : St} {vk vu vr : Value} (h : Box w b s vk vu vr) (i : Nat) : w.frozen? ⟨b, i, none⟩ = false := blk_frozen h i
theorem Box.below {w w1 : World} {b : Nat} {s : St} {vk vu vr : Value} (h : Box w b s vk vu vr) (hb : Below w.heap.size w w1) : Box w1 b s vk vu vr := blk_below h hb
theorem Box.set3 {w : World} {b : Nat} {s : St} {vk vu vr : Value} (h : Box w b s vk vu vr) (v : Value) : Box (w.setCell ⟨b, 3, none⟩ v) b s v vu vr := by simpa [Box] using blk_set h 3 v
theorem Box.set4 {w : World} {b : Nat} {s : St} {vk vu vr : Value} (h : Box w b s vk vu vr) (v : Value) : Box (w.setCell ⟨b, 4, none⟩ v) b s vk v vr := by simpa [Box] using blk_set h 4 v
theorem Box.set5 {w : World} {b : Nat} {s : St} {vk vu vr : Value} (h : Box w b s vk vu vr) (v : Value) : Box (w.setCell ⟨b, 5, none⟩ v) b s vk vu v := by simpa [Box] using blk_set h 5 v
/-- An editor's value: its cells. -/
def edV (s : St) (vk vu vr : Value) : Value := .agg #[.string s.text, .int .i64 s.pos, .int .i64 s.mark, vk, vu, vr, .string s.keys, .int .i64 s.last, .int .i64 s.line, .string s.saved]

set_option maxHeartbeats 8000000 in
set_option maxRecDepth 100000 in
theorem begin_calls (w : World) (s : St) (Ak Au Ar Al : Option Addr) (ck cu cr cl : Nat) (hk : Kd.C Kd.string w Ak s.kills.length s.kills) (hu : Kd.C k23 w Au s.undo.length s.undo) (hr : Kd.C k23 w Ar s.redo.length s.redo) (hl : Kd.C Kd.string w Al s.lines.length s.lines) (hlc : s.lines.length ≤ cl)
    (b1 : s.kills.length < 1000000) (b2 : s.undo.length < 1000000) (b3 : s.redo.length < 1000000) :
    Calls Try.prog 27 #[edV s (.slice Ak s.kills.length ck) (.slice Au s.undo.length cu) (.slice Ar s.redo.length cr), .agg #[.int .i64 s.off, .slice Al s.lines.length cl]] w fun e w' => ∃ g, e = .returned (.pointer (some ⟨g, 0, none⟩)) ∧ IsW w w' g s ∧ Below w.heap.size w w' := by
  unfold edV
  have hu27 := Try.underlying27
  have hu38 := Try.underlying38
  have hu23 := Try.underlying23
  have HK := Aside0.mk hk
  have HU := Aside0.mk hu
  have HR := Aside0.mk hr
  have HL := Aside0.mk hl
  obtain ⟨w1, hw1⟩ : ∃ z, z = (w.alloc (.cells #[.string s.text, .int .i64 s.pos, .int .i64 s.mark, .slice Ak s.kills.length ck, .slice Au s.undo.length cu, .slice Ar s.redo.length cr, .string s.keys, .int .i64 s.last, .int .i64 s.line, .string s.saved] 27)).alloc (.cells #[.int .i64 s.off, .slice Al s.lines.length cl] 38) := ⟨_, rfl⟩
  have BX1 : Aside0 (Box w1 w.heap.size s (.slice Ak s.kills.length ck) (.slice Au s.undo.length cu) (.slice Ar s.redo.length cr)) := ⟨by rw [hw1]; exact blk_alloc (blk_new w _) _⟩
  have BH1 : Aside0 (w1.heap[w.heap.size + 1]? = some (.cells #[.int .i64 s.off, .slice Al s.lines.length cl] 38 (0, 0))) := ⟨by rw [hw1]; have h := blk_new (w.alloc (.cells #[.string s.text, .int .i64 s.pos, .int .i64 s.mark, .slice Ak s.kills.length ck, .slice Au s.undo.length cu, .slice Ar s.redo.length cr, .string s.keys, .int .i64 s.last, .int .i64 s.line, .string s.saved] 27)) (.cells #[.int .i64 s.off, .slice Al s.lines.length cl] 38); simpa using h⟩
  have HB1 : Aside0 (Below w.heap.size w w1) := ⟨by rw [hw1]; exact below_alloc (below_alloc (Below.refl _ _) _) _⟩
  have HW1 := Aside0.mk hw1
  clear hw1
  clear hk hu hr hl
  go_enter Try.func27, Try.ntmps27
  rw [HW1.out] at BX1 BH1 HB1
  go_wp2_with (first | ((with_reducible refine gate_dst (N := 5) rfl ?_); refine Kd.R_lit Kd.string _ 9 ?hg (N := 5) ?hd (xs := []) (inner := []) (ok := fun _ => True) (okp := fun _ => True) ?hr ?hp (fun _ hk => hk) trivial (Below.refl _ _) (Nat.le_refl _) (by simp) ?_; (case hd => rfl); (case hg => rfl); (case hr => first | (go_simp; done) | (go_simp; rfl)); (case hp => exact (Reps.none _ _)); intro v5 w5 ho hb hg hn; have BX5 := Aside0.mk (BX1.out.below hb); have BH5 := Aside0.mk (blk_below BH1.out hb); have HB5 := Aside0.mk (below_step HB1.out hb); have HO5 := Aside0.mk (Kd.R_lower ho HB1.out.size); have p5 := BX5.out.cells.2.2.2.1; clear ho hb hg hn) | ((with_reducible refine gate_builtin (b := .append) (xs := #[.tmp 5, .tmp 7]) rfl ?_); at_builtin; refine Kd.R_append_rows Kd.string (w0 := w) w.heap.size rfl (.tmp 5) (.tmp 7) 24 9 (.string ⟨#[]⟩) 16 rfl Try.underlying24 info9 rfl (by decide) (by omega) v5 [] s.kills Ak s.kills.length ck (fun _ => True) (fun _ => False) rfl rfl ?aO ?aR (fun _ _ h => h) (fun _ h => h.elim) (fun _ _ => trivial) ?aB ?aS ?aL ?_; (case aR => exact Kd.C_below HK.out HB5.out); (case aO => exact HO5.out); (case aB => exact HB5.out); (case aS => exact HB5.out.size); (case aL => simp only [List.length_nil]; omega); intro v8 w8 ho hb hg hat; rw [List.nil_append] at ho; have X := (show Box w8 w.heap.size s _ _ _ from blk_grown BX5.out hg (Kd.R_ne HO5.out BX5.out (by decide))); have H := blk_grown BH5.out hg (Kd.R_ne HO5.out BH5.out (by decide)); have K8 := Aside0.mk (Kd.R_set ho X (by rw [E_string]; decide) 3 v8); obtain ⟨A8, n8, rfl⟩ := Kd.R_slice ho; have BX8s := Aside0.mk (X.set3 (.slice A8 s.kills.length n8)); have BH8s := Aside0.mk (blk_far H (by simp) (p := ⟨w.heap.size, 3, none⟩) (.slice A8 s.kills.length n8)); have HB8s := Aside0.mk (show Below w.heap.size w (w8.setCell ⟨w.heap.size, 3, none⟩ (.slice A8 s.kills.length n8)) from below_set hb (Nat.le_refl _)); have c8 := X.cells.2.2.2; have f8 := X.frozen 3; clear ho hb hg hat) | ((with_reducible refine gate_dst (N := 10) rfl ?_); refine Kd.R_lit k23 _ 23 ?hg (N := 10) ?hd (xs := []) (inner := []) (ok := fun _ => True) (okp := fun _ => True) ?hr ?hp (fun _ hk => hk) trivial (Below.refl _ _) (Nat.le_refl _) (by simp) ?_; (case hd => rfl); (case hg => rfl); (case hr => first | (go_simp; done) | (go_simp; rfl)); (case hp => exact (Reps.none _ _)); intro v10 w10 ho hb hg hn; have BX10 := Aside0.mk (BX8s.out.below hb); have BH10 := Aside0.mk (blk_below BH8s.out hb); have HB10 := Aside0.mk (below_step HB8s.out hb); have HO10 := Aside0.mk (Kd.R_lower ho HB8s.out.size); have K10 := Aside0.mk (Kd.R_below K8.out hb); have p10 := BX10.out.cells.2.2.2.2.1; clear ho hb hg hn) | ((with_reducible refine gate_builtin (b := .append) (xs := #[.tmp 10, .tmp 12]) rfl ?_); at_builtin; refine Kd.R_append_rows k23 (w0 := w) w.heap.size rfl (.tmp 10) (.tmp 12) 25 23 (.agg #[(.string ⟨#[]⟩), (.int .i64 0)]) 24 rfl Try.underlying25 info23 rfl (by decide) (by omega) v10 [] s.undo Au s.undo.length cu (fun _ => True) (fun _ => False) rfl rfl ?aO ?aR (fun _ _ h => h) (fun _ h => h.elim) (fun _ _ => trivial) ?aB ?aS ?aL ?_; (case aR => exact Kd.C_below HU.out HB10.out); (case aO => exact HO10.out); (case aB => exact HB10.out); (case aS => exact HB10.out.size); (case aL => simp only [List.length_nil]; omega); intro v13 w13 ho hb hg hat; rw [List.nil_append] at ho; have X := (show Box w13 w.heap.size s _ _ _ from blk_grown BX10.out hg (Kd.R_ne HO10.out BX10.out (by decide))); have H := blk_grown BH10.out hg (Kd.R_ne HO10.out BH10.out (by decide)); have K13 := Aside0.mk (Kd.R_set (Kd.R_over K10.out HO10.out (by rw [E_string]; decide) hg) X (by rw [E_string]; decide) 4 v13); have U13 := Aside0.mk (Kd.R_set ho X (by rw [E_k23]; decide) 4 v13); obtain ⟨A13, n13, rfl⟩ := Kd.R_slice ho; have BX13s := Aside0.mk (X.set4 (.slice A13 s.undo.length n13)); have BH13s := Aside0.mk (blk_far H (by simp) (p := ⟨w.heap.size, 4, none⟩) (.slice A13 s.undo.length n13)); have HB13s := Aside0.mk (show Below w.heap.size w (w13.setCell ⟨w.heap.size, 4, none⟩ (.slice A13 s.undo.length n13)) from below_set hb (Nat.le_refl _)); have c13 := X.cells.2.2.2; have f13 := X.frozen 4; clear ho hb hg hat) | ((with_reducible refine gate_dst (N := 15) rfl ?_); refine Kd.R_lit k23 _ 23 ?hg (N := 15) ?hd (xs := []) (inner := []) (ok := fun _ => True) (okp := fun _ => True) ?hr ?hp (fun _ hk => hk) trivial (Below.refl _ _) (Nat.le_refl _) (by simp) ?_; (case hd => rfl); (case hg => rfl); (case hr => first | (go_simp; done) | (go_simp; rfl)); (case hp => exact (Reps.none _ _)); intro v15 w15 ho hb hg hn; have BX15 := Aside0.mk (BX13s.out.below hb); have BH15 := Aside0.mk (blk_below BH13s.out hb); have HB15 := Aside0.mk (below_step HB13s.out hb); have HO15 := Aside0.mk (Kd.R_lower ho HB13s.out.size); have K15 := Aside0.mk (Kd.R_below K13.out hb); have U15 := Aside0.mk (Kd.R_elder' U13.out (Kd.R_base ho) hb); have p15 := BX15.out.cells.2.2.2.2.2.1; clear ho hb hg hn) | ((with_reducible refine gate_builtin (b := .append) (xs := #[.tmp 15, .tmp 17]) rfl ?_); at_builtin; refine Kd.R_append_rows k23 (w0 := w) w.heap.size rfl (.tmp 15) (.tmp 17) 25 23 (.agg #[(.string ⟨#[]⟩), (.int .i64 0)]) 24 rfl Try.underlying25 info23 rfl (by decide) (by omega) v15 [] s.redo Ar s.redo.length cr (fun _ => True) (fun _ => False) rfl rfl ?aO ?aR (fun _ _ h => h) (fun _ h => h.elim) (fun _ _ => trivial) ?aB ?aS ?aL ?_; (case aR => exact Kd.C_below HR.out HB15.out); (case aO => exact HO15.out); (case aB => exact HB15.out); (case aS => exact HB15.out.size); (case aL => simp only [List.length_nil]; omega); intro v18 w18 ho hb hg hat; rw [List.nil_append] at ho; have X := (show Box w18 w.heap.size s _ _ _ from blk_grown BX15.out hg (Kd.R_ne HO15.out BX15.out (by decide))); have H := blk_grown BH15.out hg (Kd.R_ne HO15.out BH15.out (by decide)); have K18 := Aside0.mk (Kd.R_set (Kd.R_over K15.out HO15.out (by rw [E_string]; decide) hg) X (by rw [E_string]; decide) 5 v18); have U18 := Aside0.mk (Kd.R_set (Kd.R_after U15.out hg hat) X (by rw [E_k23]; decide) 5 v18); have V18 := Aside0.mk (Kd.R_set ho X (by rw [E_k23]; decide) 5 v18); obtain ⟨A18, n18, rfl⟩ := Kd.R_slice ho; have BX18s := Aside0.mk (X.set5 (.slice A18 s.redo.length n18)); have BH18s := Aside0.mk (blk_far H (by simp) (p := ⟨w.heap.size, 5, none⟩) (.slice A18 s.redo.length n18)); have HB18s := Aside0.mk (show Below w.heap.size w (w18.setCell ⟨w.heap.size, 5, none⟩ (.slice A18 s.redo.length n18)) from below_set hb (Nat.le_refl _)); have c18 := X.cells.2.2.2; obtain ⟨d0, d1, d2, d3, d4, d5, d6, d7, d8, d9⟩ := BX18s.out.cells; have e0 : (w18.setCell ⟨w.heap.size, 5, none⟩ (.slice A18 s.redo.length n18)).cell? ⟨w.heap.size + 1, 0, none⟩ = some (.int .i64 s.off) := (blk_cell BH18s.out 0).trans rfl; have e1 : (w18.setCell ⟨w.heap.size, 5, none⟩ (.slice A18 s.redo.length n18)).cell? ⟨w.heap.size + 1, 1, none⟩ = some (.slice Al s.lines.length cl) := (blk_cell BH18s.out 1).trans rfl; have f18 := X.frozen 5; clear ho hb hg hat))
  go_ret
  have hsz : (w18.setCell ⟨w.heap.size, 5, none⟩ (.slice A18 s.redo.length n18)).heap.size = w18.heap.size := by simp [World.setCell]
  have hge := HB18s.out.size
  refine ⟨w18.heap.size, rfl, ⟨.slice A8 s.kills.length n8, .slice A13 s.undo.length n13, .slice A18 s.redo.length n18, .slice Al s.lines.length cl, ?_, ?_, ?_⟩, below_alloc HB18s.out _⟩
  · have h := blk_new (w18.setCell ⟨w.heap.size, 5, none⟩ (.slice A18 s.redo.length n18)) (.cells #[.string s.text, .int .i64 s.pos, .int .i64 s.mark, .slice A8 s.kills.length n8, .slice A13 s.undo.length n13, .slice A18 s.redo.length n18, .string s.keys, .int .i64 s.last, .int .i64 s.line, .string s.saved, .int .i64 s.off, .slice Al s.lines.length cl] 63)
    rw [hsz] at h
    exact h
  · omega
  · refine ⟨Kd.R_alloc K18.out _, Kd.R_mono (Kd.R_alloc U18.out _) (fun k h => h.2), Kd.R_reok rfl (Kd.R_alloc V18.out _) (fun k hk h => (U18.out.1 k h.symm).2 hk.symm), Al, cl, rfl, hlc, HL.out⟩
end Go.Proofs.Ytlbbjdggebgabaa.P
end

section
/- The editor's worker: rows of bytes; transpose. -/
namespace Go.Proofs.Ytlbbjdggebgabaa.P
open Go.RowKit Go.Proofs.YtlbbjdggebgabaaW.PrintWords Go.Proofs.YtlbbjdggebgabaaW.PrintLast Go.Proofs.YtlbbjdggebgabaaW.PrintMore
set_option linter.unusedVariables false
set_option linter.unusedSimpArgs false

/-- The bytes of a string as numbers. -/
def nums (t : ByteArray) : List Int := t.data.toList.map fun b => (b.toNat : Int)
theorem nums_length (t : ByteArray) : (nums t).length = t.size := by
  unfold nums
  rw [List.length_map]
  rfl
/-- A row of bytes in a block of its own. -/
def BB (w : World) (gb : Nat) (xs : List Int) : Prop := ∃ cs fr, w.heap[gb]? = some (.cells cs 5 fr) ∧ xs.length ≤ fr.1 ∧ ∀ j, j < xs.length → cs[j]? = some (.int .u8 (xs.getD j 0))
section
variable {w w1 : World} {gb : Nat} {xs : List Int}
theorem BB.cell (h : BB w gb xs) (j : Nat) (hj : j < xs.length) : w.cell? ⟨gb, j, none⟩ = some (.int .u8 (xs.getD j 0)) := by
  obtain ⟨cs, fr, h1, h2, h3⟩ := h
  unfold World.cell?
  rw [h1]
  exact h3 j hj
theorem BB.frozen (h : BB w gb xs) (j : Nat) (hj : j < xs.length) : w.frozen? ⟨gb, j, none⟩ = false := by
  obtain ⟨cs, ⟨lo, hi⟩, h1, h2, h3⟩ := h
  unfold World.frozen?
  rw [h1]
  have : ¬ lo ≤ j := by have : xs.length ≤ lo := h2; omega
  simp [this]
theorem BB.set (h : BB w gb xs) (i : Nat) (v : Int) : BB (w.setCell ⟨gb, i, none⟩ (.int .u8 v)) gb (xs.set i v) := by
  obtain ⟨cs, fr, h1, h2, h3⟩ := h
  refine ⟨cs.setIfInBounds i (.int .u8 v), fr, ?_, by rw [List.length_set]; exact h2, fun j hj => ?_⟩
  · obtain ⟨hlt, he⟩ := Array.getElem?_eq_some_iff.mp h1
    simp only [World.setCell, Array.getElem?_modify, if_true, h1]
    rfl
  · rw [List.length_set] at hj
    have h4 := h3 j hj
    rw [Array.getElem?_setIfInBounds]
    by_cases hij : i = j
    · subst hij
      obtain ⟨hlt, _⟩ := Array.getElem?_eq_some_iff.mp h4
      simp [hlt, List.getD, hj]
    · simp [hij, h4, List.getD, List.getElem?_set]
theorem BB.below (h : BB w gb xs) (hb : Below w.heap.size w w1) : BB w1 gb xs := by
  obtain ⟨cs, fr, h1, h2, h3⟩ := h
  exact ⟨cs, fr, (hb.block gb (Array.getElem?_eq_some_iff.mp h1).1).trans h1, h2, h3⟩
theorem BB.drew (h : BB w gb xs) : BB w.drew gb xs := h
theorem BB.new (w : World) (t : ByteArray) : BB (Lib.bytesWorld w 5 t) w.heap.size (nums t) := by
  refine ⟨_, _, Lib.bytesWorld_at_new w 5 t, ?_, fun j hj => ?_⟩
  · rw [nums_length]
    have : t.data.size = t.size := rfl
    show t.size ≤ (Lib.bytesCells w 5 t).size
    unfold Lib.bytesCells
    rw [Array.size_append, Array.size_map]
    omega
  · have hj2 : j < t.data.size := by rw [nums_length] at hj; exact hj
    unfold Lib.bytesCells
    rw [Array.getElem?_append_left (by rw [Array.size_map]; exact hj2)]
    have : t.data[j]? = some t.data[j] := Array.getElem?_eq_getElem hj2
    simp [nums, List.getD, this]
theorem BB.back (h : BB w gb xs) (cap : Nat) : (convert 66 9 (.slice (some ⟨gb, 0, none⟩) xs.length cap)).run Try.prog w = .ok (.string (strOfNums xs)) w :=
  run_convert_bytes_arg w 66 5 Try.underlying66 Try.underlying5 gb 0 xs.length cap xs rfl (fun i hi => by rw [Nat.zero_add]; exact h.cell i hi) 9 Try.underlying9
end
end Go.Proofs.Ytlbbjdggebgabaa.P
end

section
/- The editor's worker: transpose. -/
namespace Go.Proofs.Ytlbbjdggebgabaa.P
open Go.RowKit Go.Proofs.YtlbbjdggebgabaaW.PrintWords Go.Proofs.YtlbbjdggebgabaaW.PrintLast Go.Proofs.YtlbbjdggebgabaaW.PrintMore
set_option linter.unusedVariables false
set_option linter.unusedSimpArgs false

/-- Two neighbours exchanged. -/
def swapAt (xs : List Int) (i j : Nat) : List Int := (xs.set i (xs[j]?.getD 0)).set j (xs[i]?.getD 0)
def transS (s : St) : St :=
  if s.text.size < 2 ∨ s.pos = 0 then s
  else if s.pos = s.text.size then (setS s 19 (strOfNums (swapAt (nums s.text) (s.text.size - 2) (s.text.size - 1))) s.pos).1
  else (setS s 19 (strOfNums (swapAt (nums s.text) (s.pos.toNat - 1) s.pos.toNat)) (s.pos + 1)).1

set_option maxHeartbeats 16000000 in
set_option maxRecDepth 100000 in
theorem transpose_calls (w0 w : World) (g : Nat) (s : St) (n : Nat) (hn : s.pos = (n : Int)) (hI : IsW w0 w g s) (hu : s.undo.length < 1000000) (h1 : n ≤ s.text.size) (hs : s.text.size ≤ 1000000) (hB : Below w0.heap.size w0 w) :
    Calls Try.prog 42 #[.pointer (some ⟨g, 0, none⟩)] w fun e w' => e = .returned (.tuple #[]) ∧ IsW w0 w' g (transS s) ∧ Below w0.heap.size w0 w' := by
  obtain ⟨vk, vu, vr, vl, hb, hg, hR⟩ := id hI
  obtain ⟨c0, c1, c2, c3, c4, c5, c6, c7, c8, c9, c10, c11⟩ := hb.cells
  have hconv : ∀ W : World, (convert 9 66 (.string s.text)).run Try.prog W = .ok (.slice (some ⟨W.heap.size, 0, none⟩) s.text.size (grownCap W s.text.size 0 5)) (Lib.bytesWorld W 5 s.text) := fun W => Lib.run_convert_string_bytes W 9 66 5 s.text Try.underlying9 Try.underlying66 Try.underlying5
  have hglt : g < w.drew.heap.size := hb.lt
  obtain ⟨w1, hw1⟩ : ∃ x, x = Lib.bytesWorld w.drew 5 s.text := ⟨_, rfl⟩
  obtain ⟨gb, hgb⟩ : ∃ x, x = w.heap.size := ⟨_, rfl⟩
  have hbel : Below w.heap.size w w1 := by rw [hw1]; exact (below_drew (Below.refl _ _)).trans (Lib.bytesWorld_below w.drew 5 s.text)
  have HW1 := Aside0.mk hw1
  have HGB := Aside0.mk hgb
  have hbb : BB w1 gb (nums s.text) := by rw [hw1, hgb]; exact BB.new w.drew _
  have hgb2 : w.heap.size ≤ gb := by rw [hgb]; exact Nat.le_refl _
  have HI := Aside0.mk hI
  have HB := Aside0.mk hB
  have hN := Aside0.mk hn
  rw [hn] at c1
  clear hI hB hb hR hw1 hgb hn
  obtain ⟨z, hz⟩ : ∃ z, z = transS s := ⟨_, rfl⟩
  rw [← hz]
  have HZ := Aside0.mk hz
  clear hz
  go_enter Try.func42, Try.ntmps42
  go_wp2
  go_region_held (fun w' => w'.cell? ⟨g, 0, none⟩ = some (.string s.text) ∧ w'.cell? ⟨g, 1, none⟩ = some (.int .i64 (n : Int))) (first | exact ⟨c0, c1⟩ | (refine ⟨?_, ?_⟩ <;> (rw [Lib.bytesWorld_old _ _ _ _ hglt]; assumption))) (fail)
  rw [← HW1.out, ← HGB.out]
  have hIw1 := Aside0.mk (HI.out.below hbel)
  have hBw1 := Aside0.mk (below_step HB.out hbel)
  have hbelA := Aside0.mk hbel
  have HBB := Aside0.mk hbb
  have hlt1 : gb < w1.heap.size := by obtain ⟨cs, fr, h1, h2, h3⟩ := hbb; exact (Array.getElem?_eq_some_iff.mp h1).1
  have hlen := Aside0.mk (nums_length s.text)
  clear hbel hbb
  by_cases k1 : s.text.size < 2
  · have HZ2 := Aside0.mk (show z = s from by rw [HZ.out, transS, if_pos (.inl k1)])
    have b1 : decide ((s.text.size : Int) < 2) = true := decide_eq_true (by omega)
    have b2 : decide (s.text.size < 2) = true := decide_eq_true (by omega)
    go_wp2
    exact bodyPost_ret (results_none rfl _ _ _) rfl ⟨rfl, by rw [HZ2.out]; exact hIw1.out, hBw1.out⟩
  · have b1 : decide ((s.text.size : Int) < 2) = false := decide_eq_false (by omega)
    have b2 : decide (s.text.size < 2) = false := decide_eq_false (by omega)
    by_cases k2 : n = 0
    · have HZ2 := Aside0.mk (show z = s from by rw [HZ.out, transS, if_pos (.inr (by rw [hN.out, k2]; rfl))])
      subst k2
      go_wp2
      exact bodyPost_ret (results_none rfl _ _ _) rfl ⟨rfl, by rw [HZ2.out]; exact hIw1.out, hBw1.out⟩
    · have hnn : ¬ (s.text.size < 2 ∨ s.pos = 0) := by rintro (h | h); exact k1 h; have := hN.out; omega
      by_cases k3 : n = s.text.size
      · have HZ2 := Aside0.mk (show z = (setS s 19 (strOfNums (swapAt (nums s.text) (s.text.size - 2) (s.text.size - 1))) s.pos).1 from by rw [HZ.out, transS, if_neg hnn, if_pos (by rw [hN.out, k3])])
        clear hnn
        subst k3
        have y1 := HBB.out.cell (s.text.size - 1) (by rw [hlen.out]; omega)
        have y2 := HBB.out.cell (s.text.size - 2) (by rw [hlen.out]; omega)
        have z1 := HBB.out.frozen (s.text.size - 1) (by rw [hlen.out]; omega)
        have z2 := HBB.out.frozen (s.text.size - 2) (by rw [hlen.out]; omega)
        have q1 : 2 ≤ s.text.size := by omega
        have q2 : (2 : Int) ≤ (s.text.size : Int) := by omega
        obtain ⟨w2, hw2⟩ : ∃ x, x = ((w1.setCell ⟨gb, s.text.size - 2, none⟩ (.int .u8 ((nums s.text)[s.text.size - 1]?.getD 0))).setCell ⟨gb, s.text.size - 1, none⟩ (.int .u8 ((nums s.text)[s.text.size - 2]?.getD 0))).drew := ⟨_, rfl⟩
        have HW2 := Aside0.mk hw2
        have hBB2 : BB w2 gb (swapAt (nums s.text) (s.text.size - 2) (s.text.size - 1)) := by rw [hw2]; exact (HBB.out.set _ _).set _ _
        have hbel2 : Below w.heap.size w w2 := by rw [hw2]; exact below_drew (below_set (below_set hbelA.out hgb2) hgb2)
        have hI2 := Aside0.mk (HI.out.below hbel2)
        have hB2 := Aside0.mk (below_step HB.out hbel2)
        have hbk := hBB2.back (grownCap w.drew s.text.size 0 5)
        have hlen2 : (swapAt (nums s.text) (s.text.size - 2) (s.text.size - 1)).length = s.text.size := by unfold swapAt; rw [List.length_set, List.length_set, nums_length]
        rw [hlen2] at hbk
        obtain ⟨t2, ht2⟩ : ∃ t, t = strOfNums (swapAt (nums s.text) (s.text.size - 2) (s.text.size - 1)) := ⟨_, rfl⟩
        rw [← ht2] at hbk HZ2
        have HT2 := Aside0.mk ht2
        clear hw2 hBB2 hbel2 hlen2 ht2
        go_wp2
        go_region
        rw [← HW2.out]
        clear y1 y2 z1 z2 q1 q2
        go_wp2_with (first | (go_at_call 59; refine (editor_worker_set.calls w0 w2 g s 19 t2 (s.text.size : Int) hI2.out hu hB2.out).mono ?_; rintro e w4 ⟨rfl, h5, h6⟩; have H5 := Aside0.mk h5; have H6 := Aside0.mk h6; clear h5 h6))
        go_end0
        exact ⟨rfl, by rw [HZ2.out, hN.out]; exact H5.out, H6.out⟩
      · have HZ2 := Aside0.mk (show z = (setS s 19 (strOfNums (swapAt (nums s.text) (n - 1) n)) ((n : Int) + 1)).1 from by rw [HZ.out, transS, if_neg hnn, if_neg (by rw [hN.out]; omega), hN.out]; rfl)
        clear hnn
        have y1 := HBB.out.cell (n - 1) (by rw [hlen.out]; omega)
        have y2 := HBB.out.cell n (by rw [hlen.out]; omega)
        have z1 := HBB.out.frozen (n - 1) (by rw [hlen.out]; omega)
        have z2 := HBB.out.frozen n (by rw [hlen.out]; omega)
        have q1 : 1 ≤ n := by omega
        have q2 : (1 : Int) ≤ (n : Int) := by omega
        have q3 : n < s.text.size := by omega
        have q4 : (n : Int) < (s.text.size : Int) := by omega
        have q5 : decide ((n : Int) = (s.text.size : Int)) = false := decide_eq_false (by omega)
        have q6 : ((n : Int) == (s.text.size : Int)) = false := beq_eq_false_iff_ne.mpr (by omega)
        have q7 : (n == s.text.size) = false := beq_eq_false_iff_ne.mpr (by omega)
        obtain ⟨w2, hw2⟩ : ∃ x, x = ((w1.setCell ⟨gb, n - 1, none⟩ (.int .u8 ((nums s.text)[n]?.getD 0))).setCell ⟨gb, n, none⟩ (.int .u8 ((nums s.text)[n - 1]?.getD 0))).drew := ⟨_, rfl⟩
        have HW2 := Aside0.mk hw2
        have hBB2 : BB w2 gb (swapAt (nums s.text) (n - 1) (n)) := by rw [hw2]; exact (HBB.out.set _ _).set _ _
        have hbel2 : Below w.heap.size w w2 := by rw [hw2]; exact below_drew (below_set (below_set hbelA.out hgb2) hgb2)
        have hI2 := Aside0.mk (HI.out.below hbel2)
        have hB2 := Aside0.mk (below_step HB.out hbel2)
        have hbk := hBB2.back (grownCap w.drew s.text.size 0 5)
        have hlen2 : (swapAt (nums s.text) (n - 1) (n)).length = s.text.size := by unfold swapAt; rw [List.length_set, List.length_set, nums_length]
        rw [hlen2] at hbk
        obtain ⟨t2, ht2⟩ : ∃ t, t = strOfNums (swapAt (nums s.text) (n - 1) (n)) := ⟨_, rfl⟩
        rw [← ht2] at hbk HZ2
        have HT2 := Aside0.mk ht2
        clear hw2 hBB2 hbel2 hlen2 ht2
        go_wp2
        go_region
        rw [← HW2.out]
        clear y1 y2 z1 z2 q1 q2
        go_wp2_with (first | (go_at_call 59; refine (editor_worker_set.calls w0 w2 g s 19 t2 ((n : Int) + 1) hI2.out hu hB2.out).mono ?_; rintro e w4 ⟨rfl, h5, h6⟩; have H5 := Aside0.mk h5; have H6 := Aside0.mk h6; clear h5 h6))
        go_end0
        exact ⟨rfl, by rw [HZ2.out]; exact H5.out, H6.out⟩
end Go.Proofs.Ytlbbjdggebgabaa.P
end

section
/- The editor's worker: cased. -/
namespace Go.Proofs.Ytlbbjdggebgabaa.P
open Go.RowKit Go.Proofs.YtlbbjdggebgabaaW.PrintWords Go.Proofs.YtlbbjdggebgabaaW.PrintLast Go.Proofs.YtlbbjdggebgabaaW.PrintMore
set_option linter.unusedVariables false
set_option linter.unusedSimpArgs false

def casedB (action c : Int) : Int := if action = 27 ∧ 97 ≤ c ∧ c ≤ 122 then c - 32 else if action = 28 ∧ 65 ≤ c ∧ c ≤ 90 then c + 32 else c
/-- The places from i on and below lim, at most k of them, with their other case. -/
def caseFrom (action : Int) (lim : Nat) : Nat → Nat → List Int → List Int
  | 0, i, xs => xs
  | k + 1, i, xs => if i < lim then caseFrom action lim k (i + 1) (xs.set i (casedB action (xs[i]?.getD 0))) else xs
def casedS (s : St) (action : Int) (lim : Nat) : St := (setS s action (strOfNums (caseFrom action lim lim s.pos.toNat (nums s.text))) lim).1
theorem caseFrom_length (action : Int) (lim : Nat) : ∀ k i xs, (caseFrom action lim k i xs).length = xs.length
  | 0, i, xs => rfl
  | k + 1, i, xs => by
    rw [caseFrom]
    split
    · rw [caseFrom_length action lim k, List.length_set]
    · rfl

set_option maxHeartbeats 16000000 in
set_option maxRecDepth 100000 in
theorem cased_calls (w0 w : World) (g : Nat) (s : St) (n lim : Nat) (action : Int) (ha : action = 27 ∨ action = 28) (hn : s.pos = (n : Int)) (hI : IsW w0 w g s) (hu : s.undo.length < 1000000) (h1 : lim ≤ s.text.size) (hs : s.text.size ≤ 1000000) (hB : Below w0.heap.size w0 w) :
    Calls Try.prog 44 #[.pointer (some ⟨g, 0, none⟩), .int .i64 action, .int .i64 (lim : Int)] w fun e w' => e = .returned (.tuple #[]) ∧ IsW w0 w' g (casedS s action lim) ∧ Below w0.heap.size w0 w' := by
  obtain ⟨vk, vu, vr, vl, hb, hg, hR⟩ := id hI
  obtain ⟨c0, c1, c2, c3, c4, c5, c6, c7, c8, c9, c10, c11⟩ := hb.cells
  obtain ⟨w1, hw1⟩ : ∃ x, x = Lib.bytesWorld w 5 s.text := ⟨_, rfl⟩
  obtain ⟨gb, hgb⟩ : ∃ x, x = w.heap.size := ⟨_, rfl⟩
  have hconv : (convert 9 66 (.string s.text)).run Try.prog w = .ok (.slice (some ⟨gb, 0, none⟩) s.text.size (grownCap w s.text.size 0 5)) w1 := by rw [hw1, hgb]; exact Lib.run_convert_string_bytes w 9 66 5 s.text Try.underlying9 Try.underlying66 Try.underlying5
  have hbel : Below w.heap.size w w1 := by rw [hw1]; exact Lib.bytesWorld_below w 5 s.text
  have HBB := Aside0.mk (show BB w1 gb (nums s.text) from by rw [hw1, hgb]; exact BB.new w _)
  have hgb2 : w.heap.size ≤ gb := by rw [hgb]; exact Nat.le_refl _
  have hd1 : w1.cell? ⟨g, 1, none⟩ = some (.int .i64 (n : Int)) := by rw [← hn]; exact (hb.below hbel).cells.2.1
  have HI := Aside0.mk hI
  have HB := Aside0.mk hB
  have HBel := Aside0.mk hbel
  have HGB2 := Aside0.mk hgb2
  obtain ⟨z, hz⟩ : ∃ z, z = strOfNums (caseFrom action lim lim n (nums s.text)) := ⟨_, rfl⟩
  have HZ2 := Aside0.mk (show casedS s action lim = (setS s action z (lim : Int)).1 from by rw [casedS, hn, hz]; rfl)
  have HZ := Aside0.mk hz
  clear hI hB hb hR hw1 hgb hn hbel hz hgb2
  rw [HZ2.out]
  rcases ha with rfl | rfl
  · go_enter Try.func44, Try.ntmps44
    go_wp2
    clear c0 c1 c2 c3 c4 c5 c6 c7 c8 c9 c10 c11 hd1 hconv
    go_loopg [7] lim (fun kq v7 wr => ∃ (i : Nat) (xs : List Int), v7 = .int .i64 (i : Int) ∧ Aside0 (lim ≤ i + kq) ∧ Aside0 (xs.length = s.text.size) ∧ Aside0 (strOfNums (caseFrom 27 lim kq i xs) = z) ∧ Aside0 (BB wr gb xs) ∧ Aside0 (Below w.heap.size w wr))
    case atStart => exact ⟨n, nums s.text, rfl, ⟨by omega⟩, ⟨nums_length _⟩, ⟨HZ.out.symm⟩, HBB, HBel⟩
    case round =>
      obtain ⟨i, xs, rfl, HK, HL, HF, HXB, HBW⟩ := hrel
      by_cases hi : i < lim
      · have hq1 : (i : Int) < (lim : Int) := by omega
        have hq2 : i < s.text.size := by omega
        have hq3 : (i : Int) < (s.text.size : Int) := by omega
        have hxl : i < xs.length := by rw [HL.out]; exact hq2
        obtain ⟨c, hxc⟩ : ∃ c, c = xs[i]'hxl := ⟨_, rfl⟩
        have hy : wr.cell? ⟨gb, i, none⟩ = some (.int .u8 c) := by rw [HXB.out.cell i hxl, hxc]; simp [List.getD, hxl]
        have hyf : wr.frozen? ⟨gb, i, none⟩ = false := HXB.out.frozen i hxl
        cases gk with
        | zero => have := HK.out; omega
        | succ k1 =>
          have F2 := HF.out
          rw [caseFrom, if_pos hi] at F2
          have hg1 : xs[i]?.getD 0 = c := by rw [hxc]; simp [hxl]
          rw [hg1] at F2
          have HXC := Aside0.mk hxc
          clear hg1 hxc
          by_cases hc : 97 ≤ c ∧ c ≤ 122
          · obtain ⟨hc1, hc2⟩ := hc
            have hset := Aside0.mk (BB.set HXB.out i (c - 32))
            have hcb : casedB 27 c = c - 32 := by unfold casedB; simp only [hc1, hc2]; simp
            rw [hcb] at F2
            have HF2 := Aside0.mk F2
            clear F2 HF hcb
            go_wp2
            go_roundg k1
            case measure => omega
            case rel => exact ⟨i + 1, xs.set i (c - 32), by push_cast; rfl, ⟨by have := HK.out; omega⟩, ⟨by rw [List.length_set]; exact HL.out⟩, HF2, hset, ⟨below_set HBW.out HGB2.out⟩⟩
          · have hcb : casedB 27 c = c := by unfold casedB; rw [if_neg (by omega), if_neg (by omega)]
            rw [hcb, HXC.out, List.set_getElem_self] at F2
            have HF2 := Aside0.mk F2
            have hc2 : ¬ 97 ≤ c ∨ (97 ≤ c ∧ ¬ c ≤ 122) := by omega
            clear F2 HF hcb hc
            rcases hc2 with hc1 | ⟨hc1, hc2⟩
            all_goals
              go_wp2
              go_roundg k1
              case measure => omega
              case rel => exact ⟨i + 1, xs, by push_cast; rfl, ⟨by have := HK.out; omega⟩, HL, HF2, HXB, HBW⟩
      · have hq1 : ¬ (i : Int) < (lim : Int) := by omega
        have hxs : strOfNums xs = z := by
          rw [← HF.out]
          cases gk with
          | zero => rfl
          | succ k1 => rw [caseFrom, if_neg hi]
        have hbk := HXB.out.back (grownCap w s.text.size 0 5)
        rw [HL.out, hxs] at hbk
        have hI2 := Aside0.mk (HI.out.below HBW.out)
        have hB2 := Aside0.mk (below_step HB.out HBW.out)
        clear hxs
        go_wp2_with (first | (go_at_call 59; refine (editor_worker_set.calls w0 wr g s 27 z (lim : Int) hI2.out hu hB2.out).mono ?_; rintro e w4 ⟨rfl, h5, h6⟩; have H5 := Aside0.mk h5; have H6 := Aside0.mk h6; clear h5 h6))
        go_end0
        exact ⟨rfl, H5.out, H6.out⟩
  · go_enter Try.func44, Try.ntmps44
    go_wp2
    clear c0 c1 c2 c3 c4 c5 c6 c7 c8 c9 c10 c11 hd1 hconv
    go_loopg [7] lim (fun kq v7 wr => ∃ (i : Nat) (xs : List Int), v7 = .int .i64 (i : Int) ∧ Aside0 (lim ≤ i + kq) ∧ Aside0 (xs.length = s.text.size) ∧ Aside0 (strOfNums (caseFrom 28 lim kq i xs) = z) ∧ Aside0 (BB wr gb xs) ∧ Aside0 (Below w.heap.size w wr))
    case atStart => exact ⟨n, nums s.text, rfl, ⟨by omega⟩, ⟨nums_length _⟩, ⟨HZ.out.symm⟩, HBB, HBel⟩
    case round =>
      obtain ⟨i, xs, rfl, HK, HL, HF, HXB, HBW⟩ := hrel
      by_cases hi : i < lim
      · have hq1 : (i : Int) < (lim : Int) := by omega
        have hq2 : i < s.text.size := by omega
        have hq3 : (i : Int) < (s.text.size : Int) := by omega
        have hxl : i < xs.length := by rw [HL.out]; exact hq2
        obtain ⟨c, hxc⟩ : ∃ c, c = xs[i]'hxl := ⟨_, rfl⟩
        have hy : wr.cell? ⟨gb, i, none⟩ = some (.int .u8 c) := by rw [HXB.out.cell i hxl, hxc]; simp [List.getD, hxl]
        have hyf : wr.frozen? ⟨gb, i, none⟩ = false := HXB.out.frozen i hxl
        cases gk with
        | zero => have := HK.out; omega
        | succ k1 =>
          have F2 := HF.out
          rw [caseFrom, if_pos hi] at F2
          have hg1 : xs[i]?.getD 0 = c := by rw [hxc]; simp [hxl]
          rw [hg1] at F2
          have HXC := Aside0.mk hxc
          clear hg1 hxc
          by_cases hc : 65 ≤ c ∧ c ≤ 90
          · obtain ⟨hc1, hc2⟩ := hc
            have hset := Aside0.mk (BB.set HXB.out i (c + 32))
            have hcb : casedB 28 c = c + 32 := by unfold casedB; simp only [hc1, hc2]; simp
            rw [hcb] at F2
            have HF2 := Aside0.mk F2
            clear F2 HF hcb
            go_wp2
            go_roundg k1
            case measure => omega
            case rel => exact ⟨i + 1, xs.set i (c + 32), by push_cast; rfl, ⟨by have := HK.out; omega⟩, ⟨by rw [List.length_set]; exact HL.out⟩, HF2, hset, ⟨below_set HBW.out HGB2.out⟩⟩
          · have hcb : casedB 28 c = c := by unfold casedB; rw [if_neg (by omega), if_neg (by omega)]
            rw [hcb, HXC.out, List.set_getElem_self] at F2
            have HF2 := Aside0.mk F2
            have hc2 : ¬ 65 ≤ c ∨ (65 ≤ c ∧ ¬ c ≤ 90) := by omega
            clear F2 HF hcb hc
            rcases hc2 with hc1 | ⟨hc1, hc2⟩
            all_goals
              go_wp2
              go_roundg k1
              case measure => omega
              case rel => exact ⟨i + 1, xs, by push_cast; rfl, ⟨by have := HK.out; omega⟩, HL, HF2, HXB, HBW⟩
      · have hq1 : ¬ (i : Int) < (lim : Int) := by omega
        have hxs : strOfNums xs = z := by
          rw [← HF.out]
          cases gk with
          | zero => rfl
          | succ k1 => rw [caseFrom, if_neg hi]
        have hbk := HXB.out.back (grownCap w s.text.size 0 5)
        rw [HL.out, hxs] at hbk
        have hI2 := Aside0.mk (HI.out.below HBW.out)
        have hB2 := Aside0.mk (below_step HB.out HBW.out)
        clear hxs
        go_wp2_with (first | (go_at_call 59; refine (editor_worker_set.calls w0 wr g s 28 z (lim : Int) hI2.out hu hB2.out).mono ?_; rintro e w4 ⟨rfl, h5, h6⟩; have H5 := Aside0.mk h5; have H6 := Aside0.mk h6; clear h5 h6))
        go_end0
        exact ⟨rfl, H5.out, H6.out⟩
end Go.Proofs.Ytlbbjdggebgabaa.P
end

section
/- The editor's worker: change, action by action. -/
namespace Go.Proofs.Ytlbbjdggebgabaa.P
open Go.RowKit Go.Proofs.YtlbbjdggebgabaaW.PrintWords Go.Proofs.YtlbbjdggebgabaaW.PrintLast Go.Proofs.YtlbbjdggebgabaaW.PrintMore
set_option linter.unusedVariables false
set_option linter.unusedSimpArgs false

/-- What the calls ask of an editor's sizes. -/
structure OkS (s : St) : Prop where
  undo : s.undo.length < 1000000
  redo : s.redo.length < 1000000
  kills : s.kills.length < 1000000
  each : ∀ k ∈ s.kills, k.size ≤ 1000000
  low : 0 ≤ s.pos
  high : s.pos ≤ s.text.size
  text : s.text.size ≤ 1000000
  lines : s.lines.length < 1000000
  line0 : 0 ≤ s.line
  line1 : s.line ≤ 1000000
def undoS (s : St) : St := if s.undo = [] then s else { backS s s.undo with undo := s.undo.dropLast, redo := pushS s.redo ⟨s.text, s.pos⟩ }
def redoS (s : St) : St := if s.redo = [] then s else { backS s s.redo with redo := s.redo.dropLast, undo := pushS s.undo ⟨s.text, s.pos⟩ }
def upS (s : St) : St := if s.line < (s.lines.length : Int) ∧ s.line < 128 then lineS s (s.line + 1) else s
def downS (s : St) : St := if 0 < s.line ∧ s.line ≤ (s.lines.length : Int) then lineS s (s.line - 1) else s
def changeS (s : St) (a : Int) (x : ByteArray) : St :=
  if a = 1 then insertS s 1 x
  else if a = 9 then removeS s 9 (if 0 < s.pos - 1 then s.pos - 1 else 0) s.pos
  else if a = 10 then removeS s 10 s.pos (if s.pos + 1 < (s.text.size : Int) then s.pos + 1 else (s.text.size : Int))
  else if a = 23 then removeS s 23 s.pos (if s.pos + 1 < (s.text.size : Int) then s.pos + 1 else (s.text.size : Int))
  else if a = 11 then killS s 11 s.pos (s.text.size : Int)
  else if a = 12 then killS s 12 0 s.pos
  else if a = 13 then killS s 13 s.pos ((wordEndS s.text s.pos.toNat : Nat) : Int)
  else if a = 14 then killS s 14 ((wordStartS s.text s.pos.toNat : Nat) : Int) s.pos
  else if a = 15 then (if s.kills = [] then s else insertS s 15 (lastOf s.kills))
  else if a = 16 then rotateS s
  else if a = 17 then undoS s
  else if a = 18 then redoS s
  else if a = 19 then transS s
  else if a = 20 then upS s
  else if a = 21 then downS s
  else if a = 27 then casedS s 27 (wordEndS s.text s.pos.toNat)
  else if a = 28 then casedS s 28 (wordEndS s.text s.pos.toNat)
  else s
theorem bwd_le' (p : Int → Bool) (t : ByteArray) : ∀ i, bwd p t i ≤ i
  | 0 => Nat.le_refl _
  | i + 1 => by
    rw [bwd]
    split
    · exact Nat.le_trans (bwd_le' p t i) (Nat.le_succ i)
    · exact Nat.le_refl _
theorem wordEndS_le (t : ByteArray) (i : Nat) (h : i ≤ t.size) : wordEndS t i ≤ t.size := fwd_le _ _ _ _ (fwd_le _ _ _ _ h)
theorem wordEndS_ge (t : ByteArray) (i : Nat) : i ≤ wordEndS t i := Nat.le_trans (fwd_ge _ _ _ _) (fwd_ge _ _ _ _)
theorem wordStartS_le (t : ByteArray) (i : Nat) : wordStartS t i ≤ i := Nat.le_trans (bwd_le' _ _ _) (bwd_le' _ _ _)

set_option maxHeartbeats 16000000 in
set_option maxRecDepth 100000 in
theorem change_1 (w0 w : World) (g : Nat) (s : St) (x : ByteArray) (ok : OkS s) (hx : x.size ≤ 1000000) (hI : IsW w0 w g s) (hB : Below w0.heap.size w0 w) :
    Calls Try.prog 29 #[.pointer (some ⟨g, 0, none⟩), .int .i64 1, .string x] w fun e w' => e = .returned (.tuple #[]) ∧ IsW w0 w' g (insertS s 1 x) ∧ Below w0.heap.size w0 w' := by
  obtain ⟨vk, vu, vr, vl, hb, hg, hR⟩ := id hI
  obtain ⟨c0, c1, c2, c3, c4, c5, c6, c7, c8, c9, c10, c11⟩ := hb.cells
  have HK := Aside0.mk ok
  have hp0 := ok.low
  have hp1 := ok.high
  have hts := ok.text
  have HI := Aside0.mk (hI.below (w1 := w.drew) (below_drew (Below.refl _ _)))
  have HB := Aside0.mk (below_drew hB)
  have HI0 := Aside0.mk hI
  have HB0 := Aside0.mk hB
  clear hI hB hb hR ok
  go_enter Try.func29, Try.ntmps29
  go_wp2
  go_region
  go_wp2_with (first | (go_at_call 37; refine (editor_worker_insert.calls w0 w.drew g s 1 x HI.out HK.out.undo hp0 hp1 hts (by omega) HB.out).mono ?_; rintro e w4 ⟨rfl, h5, h6⟩; have H5 := Aside0.mk h5; have H6 := Aside0.mk h6; clear h5 h6))
  go_end0
  exact ⟨rfl, H5.out, H6.out⟩

set_option maxHeartbeats 16000000 in
set_option maxRecDepth 100000 in
theorem change_9 (w0 w : World) (g : Nat) (s : St) (x : ByteArray) (ok : OkS s) (hx : x.size ≤ 1000000) (hI : IsW w0 w g s) (hB : Below w0.heap.size w0 w) :
    Calls Try.prog 29 #[.pointer (some ⟨g, 0, none⟩), .int .i64 9, .string x] w fun e w' => e = .returned (.tuple #[]) ∧ IsW w0 w' g (removeS s 9 (if 0 < s.pos - 1 then s.pos - 1 else 0) s.pos) ∧ Below w0.heap.size w0 w' := by
  obtain ⟨vk, vu, vr, vl, hb, hg, hR⟩ := id hI
  obtain ⟨c0, c1, c2, c3, c4, c5, c6, c7, c8, c9, c10, c11⟩ := hb.cells
  have HK := Aside0.mk ok
  have hp0 := ok.low
  have hp1 := ok.high
  have hts := ok.text
  have HI := Aside0.mk (hI.below (w1 := w.drew) (below_drew (Below.refl _ _)))
  have HB := Aside0.mk (below_drew hB)
  have HI0 := Aside0.mk hI
  have HB0 := Aside0.mk hB
  clear hI hB hb hR ok
  by_cases hx : 0 < s.pos - 1
  · rw [if_pos hx]
    go_enter Try.func29, Try.ntmps29
    go_wp2
    go_region
    go_wp2_with (first | (go_at_call 38; refine (editor_worker_remove.calls w0 w.drew g s 9 (s.pos - 1) s.pos HI.out HK.out.undo (by omega) (by omega) hp0 hp1 hts HB.out).mono ?_; rintro e w4 ⟨rfl, h5, h6⟩; have H5 := Aside0.mk h5; have H6 := Aside0.mk h6; clear h5 h6))
    go_end0
    exact ⟨rfl, H5.out, H6.out⟩
  · rw [if_neg hx]
    go_enter Try.func29, Try.ntmps29
    go_wp2
    go_region
    go_wp2_with (first | (go_at_call 38; refine (editor_worker_remove.calls w0 w.drew g s 9 0 s.pos HI.out HK.out.undo (by omega) (by omega) hp0 hp1 hts HB.out).mono ?_; rintro e w4 ⟨rfl, h5, h6⟩; have H5 := Aside0.mk h5; have H6 := Aside0.mk h6; clear h5 h6))
    go_end0
    exact ⟨rfl, H5.out, H6.out⟩

set_option maxHeartbeats 16000000 in
set_option maxRecDepth 100000 in
theorem change_10 (w0 w : World) (g : Nat) (s : St) (x : ByteArray) (ok : OkS s) (hx : x.size ≤ 1000000) (hI : IsW w0 w g s) (hB : Below w0.heap.size w0 w) :
    Calls Try.prog 29 #[.pointer (some ⟨g, 0, none⟩), .int .i64 10, .string x] w fun e w' => e = .returned (.tuple #[]) ∧ IsW w0 w' g (removeS s 10 s.pos (if s.pos + 1 < (s.text.size : Int) then s.pos + 1 else (s.text.size : Int))) ∧ Below w0.heap.size w0 w' := by
  obtain ⟨vk, vu, vr, vl, hb, hg, hR⟩ := id hI
  obtain ⟨c0, c1, c2, c3, c4, c5, c6, c7, c8, c9, c10, c11⟩ := hb.cells
  have HK := Aside0.mk ok
  have hp0 := ok.low
  have hp1 := ok.high
  have hts := ok.text
  have HI := Aside0.mk (hI.below (w1 := w.drew) (below_drew (Below.refl _ _)))
  have HB := Aside0.mk (below_drew hB)
  have HI0 := Aside0.mk hI
  have HB0 := Aside0.mk hB
  clear hI hB hb hR ok
  by_cases hx : s.pos + 1 < (s.text.size : Int)
  · rw [if_pos hx]
    go_enter Try.func29, Try.ntmps29
    go_wp2
    go_region
    go_wp2_with (first | (go_at_call 38; refine (editor_worker_remove.calls w0 w.drew g s 10 s.pos (s.pos + 1) HI.out HK.out.undo hp0 hp1 (by omega) (by omega) hts HB.out).mono ?_; rintro e w4 ⟨rfl, h5, h6⟩; have H5 := Aside0.mk h5; have H6 := Aside0.mk h6; clear h5 h6))
    go_end0
    exact ⟨rfl, H5.out, H6.out⟩
  · rw [if_neg hx]
    go_enter Try.func29, Try.ntmps29
    go_wp2
    go_region
    go_wp2_with (first | (go_at_call 38; refine (editor_worker_remove.calls w0 w.drew g s 10 s.pos (s.text.size : Int) HI.out HK.out.undo hp0 hp1 (by omega) (by omega) hts HB.out).mono ?_; rintro e w4 ⟨rfl, h5, h6⟩; have H5 := Aside0.mk h5; have H6 := Aside0.mk h6; clear h5 h6))
    go_end0
    exact ⟨rfl, H5.out, H6.out⟩

set_option maxHeartbeats 16000000 in
set_option maxRecDepth 100000 in
theorem change_11 (w0 w : World) (g : Nat) (s : St) (x : ByteArray) (ok : OkS s) (hx : x.size ≤ 1000000) (hI : IsW w0 w g s) (hB : Below w0.heap.size w0 w) :
    Calls Try.prog 29 #[.pointer (some ⟨g, 0, none⟩), .int .i64 11, .string x] w fun e w' => e = .returned (.tuple #[]) ∧ IsW w0 w' g (killS s 11 s.pos (s.text.size : Int)) ∧ Below w0.heap.size w0 w' := by
  obtain ⟨vk, vu, vr, vl, hb, hg, hR⟩ := id hI
  obtain ⟨c0, c1, c2, c3, c4, c5, c6, c7, c8, c9, c10, c11⟩ := hb.cells
  have HK := Aside0.mk ok
  have hp0 := ok.low
  have hp1 := ok.high
  have hts := ok.text
  have HI := Aside0.mk (hI.below (w1 := w.drew) (below_drew (Below.refl _ _)))
  have HB := Aside0.mk (below_drew hB)
  have HI0 := Aside0.mk hI
  have HB0 := Aside0.mk hB
  clear hI hB hb hR ok
  go_enter Try.func29, Try.ntmps29
  go_wp2
  go_region
  go_wp2_with (first | (go_at_call 39; refine (editor_worker_kill.calls w0 w.drew g s 11 s.pos (s.text.size : Int) HI.out HK.out.undo HK.out.kills HK.out.each hp0 hp1 (by omega) (by omega) hts HB.out).mono ?_; rintro e w4 ⟨rfl, h5, h6⟩; have H5 := Aside0.mk h5; have H6 := Aside0.mk h6; clear h5 h6))
  go_end0
  exact ⟨rfl, H5.out, H6.out⟩

set_option maxHeartbeats 16000000 in
set_option maxRecDepth 100000 in
theorem change_12 (w0 w : World) (g : Nat) (s : St) (x : ByteArray) (ok : OkS s) (hx : x.size ≤ 1000000) (hI : IsW w0 w g s) (hB : Below w0.heap.size w0 w) :
    Calls Try.prog 29 #[.pointer (some ⟨g, 0, none⟩), .int .i64 12, .string x] w fun e w' => e = .returned (.tuple #[]) ∧ IsW w0 w' g (killS s 12 0 s.pos) ∧ Below w0.heap.size w0 w' := by
  obtain ⟨vk, vu, vr, vl, hb, hg, hR⟩ := id hI
  obtain ⟨c0, c1, c2, c3, c4, c5, c6, c7, c8, c9, c10, c11⟩ := hb.cells
  have HK := Aside0.mk ok
  have hp0 := ok.low
  have hp1 := ok.high
  have hts := ok.text
  have HI := Aside0.mk (hI.below (w1 := w.drew) (below_drew (Below.refl _ _)))
  have HB := Aside0.mk (below_drew hB)
  have HI0 := Aside0.mk hI
  have HB0 := Aside0.mk hB
  clear hI hB hb hR ok
  go_enter Try.func29, Try.ntmps29
  go_wp2
  go_region
  go_wp2_with (first | (go_at_call 39; refine (editor_worker_kill.calls w0 w.drew g s 12 0 s.pos HI.out HK.out.undo HK.out.kills HK.out.each (by omega) (by omega) hp0 hp1 hts HB.out).mono ?_; rintro e w4 ⟨rfl, h5, h6⟩; have H5 := Aside0.mk h5; have H6 := Aside0.mk h6; clear h5 h6))
  go_end0
  exact ⟨rfl, H5.out, H6.out⟩

set_option maxHeartbeats 16000000 in
set_option maxRecDepth 100000 in
theorem change_23 (w0 w : World) (g : Nat) (s : St) (x : ByteArray) (ok : OkS s) (hx : x.size ≤ 1000000) (hI : IsW w0 w g s) (hB : Below w0.heap.size w0 w) :
    Calls Try.prog 29 #[.pointer (some ⟨g, 0, none⟩), .int .i64 23, .string x] w fun e w' => e = .returned (.tuple #[]) ∧ IsW w0 w' g (removeS s 23 s.pos (if s.pos + 1 < (s.text.size : Int) then s.pos + 1 else (s.text.size : Int))) ∧ Below w0.heap.size w0 w' := by
  obtain ⟨vk, vu, vr, vl, hb, hg, hR⟩ := id hI
  obtain ⟨c0, c1, c2, c3, c4, c5, c6, c7, c8, c9, c10, c11⟩ := hb.cells
  have HK := Aside0.mk ok
  have hp0 := ok.low
  have hp1 := ok.high
  have hts := ok.text
  have HI := Aside0.mk (hI.below (w1 := w.drew) (below_drew (Below.refl _ _)))
  have HB := Aside0.mk (below_drew hB)
  have HI0 := Aside0.mk hI
  have HB0 := Aside0.mk hB
  clear hI hB hb hR ok
  by_cases hx : s.pos + 1 < (s.text.size : Int)
  · rw [if_pos hx]
    go_enter Try.func29, Try.ntmps29
    go_wp2
    go_region
    go_wp2_with (first | (go_at_call 38; refine (editor_worker_remove.calls w0 w.drew g s 23 s.pos (s.pos + 1) HI.out HK.out.undo hp0 hp1 (by omega) (by omega) hts HB.out).mono ?_; rintro e w4 ⟨rfl, h5, h6⟩; have H5 := Aside0.mk h5; have H6 := Aside0.mk h6; clear h5 h6))
    go_end0
    exact ⟨rfl, H5.out, H6.out⟩
  · rw [if_neg hx]
    go_enter Try.func29, Try.ntmps29
    go_wp2
    go_region
    go_wp2_with (first | (go_at_call 38; refine (editor_worker_remove.calls w0 w.drew g s 23 s.pos (s.text.size : Int) HI.out HK.out.undo hp0 hp1 (by omega) (by omega) hts HB.out).mono ?_; rintro e w4 ⟨rfl, h5, h6⟩; have H5 := Aside0.mk h5; have H6 := Aside0.mk h6; clear h5 h6))
    go_end0
    exact ⟨rfl, H5.out, H6.out⟩
end Go.Proofs.Ytlbbjdggebgabaa.P
end

section
/- The editor's worker: change, action by action. -/
namespace Go.Proofs.Ytlbbjdggebgabaa.P
open Go.RowKit Go.Proofs.YtlbbjdggebgabaaW.PrintWords Go.Proofs.YtlbbjdggebgabaaW.PrintLast Go.Proofs.YtlbbjdggebgabaaW.PrintMore
set_option linter.unusedVariables false
set_option linter.unusedSimpArgs false

set_option maxHeartbeats 16000000 in
set_option maxRecDepth 100000 in
theorem change_13 (w0 w : World) (g : Nat) (s : St) (x : ByteArray) (ok : OkS s) (hx : x.size ≤ 1000000) (hI : IsW w0 w g s) (hB : Below w0.heap.size w0 w) :
    Calls Try.prog 29 #[.pointer (some ⟨g, 0, none⟩), .int .i64 13, .string x] w fun e w' => e = .returned (.tuple #[]) ∧ IsW w0 w' g (killS s 13 s.pos ((wordEndS s.text s.pos.toNat : Nat) : Int)) ∧ Below w0.heap.size w0 w' := by
  obtain ⟨vk, vu, vr, vl, hb, hg, hR⟩ := id hI
  obtain ⟨c0, c1, c2, c3, c4, c5, c6, c7, c8, c9, c10, c11⟩ := hb.cells
  have HK := Aside0.mk ok
  have hp0 := ok.low
  have hp1 := ok.high
  have hts := ok.text
  have HI := Aside0.mk (hI.below (w1 := w.drew) (below_drew (Below.refl _ _)))
  have HB := Aside0.mk (below_drew hB)
  have HI0 := Aside0.mk hI
  have HB0 := Aside0.mk hB
  obtain ⟨n, hn⟩ : ∃ n : Nat, s.pos = (n : Int) := ⟨s.pos.toNat, by omega⟩
  have hn2 : s.pos.toNat = n := by omega
  have HN := Aside0.mk hn
  have HBk := Aside0.mk (hb.below (w1 := w.drew) (below_drew (Below.refl _ _)))
  rw [hn2]
  clear hn hn2
  obtain ⟨k, hk⟩ : ∃ k, k = wordEndS s.text n := ⟨_, rfl⟩
  have hk1 : n ≤ k := by rw [hk]; exact wordEndS_ge _ _
  have hk2 : k ≤ s.text.size := by rw [hk]; exact wordEndS_le _ _ (by have := HN.out; omega)
  rw [← hk]
  have HKK := Aside0.mk hk
  clear hk
  clear hI hB hb hR ok
  go_enter Try.func29, Try.ntmps29
  go_wp2
  go_region
  go_wp2_with (first | (go_at_call 36; refine (wordEnd_calls w.drew g s vk vu vr vl n HN.out HBk.out (by have := HN.out; omega) hts).mono ?_; rw [← HKK.out]; rintro e w2 ⟨rfl, ⟨m2, rfl⟩⟩; have HI2 := Aside0.mk (HI0.out.below (w1 := w.drewN (1 + m2)) (pw_below_drewN (Below.refl _ _) (1 + m2))); have HB2 := Aside0.mk (pw_below_drewN HB0.out (1 + m2))) | (go_at_call 39; refine (editor_worker_kill.calls w0 (w.drewN (1 + m2)) g s 13 s.pos (k : Int) HI2.out HK.out.undo HK.out.kills HK.out.each hp0 hp1 (by omega) (by omega) hts HB2.out).mono ?_; rintro e w4 ⟨rfl, h5, h6⟩; have H5 := Aside0.mk h5; have H6 := Aside0.mk h6; clear h5 h6))
  go_end0
  exact ⟨rfl, H5.out, H6.out⟩

set_option maxHeartbeats 16000000 in
set_option maxRecDepth 100000 in
theorem change_14 (w0 w : World) (g : Nat) (s : St) (x : ByteArray) (ok : OkS s) (hx : x.size ≤ 1000000) (hI : IsW w0 w g s) (hB : Below w0.heap.size w0 w) :
    Calls Try.prog 29 #[.pointer (some ⟨g, 0, none⟩), .int .i64 14, .string x] w fun e w' => e = .returned (.tuple #[]) ∧ IsW w0 w' g (killS s 14 ((wordStartS s.text s.pos.toNat : Nat) : Int) s.pos) ∧ Below w0.heap.size w0 w' := by
  obtain ⟨vk, vu, vr, vl, hb, hg, hR⟩ := id hI
  obtain ⟨c0, c1, c2, c3, c4, c5, c6, c7, c8, c9, c10, c11⟩ := hb.cells
  have HK := Aside0.mk ok
  have hp0 := ok.low
  have hp1 := ok.high
  have hts := ok.text
  have HI := Aside0.mk (hI.below (w1 := w.drew) (below_drew (Below.refl _ _)))
  have HB := Aside0.mk (below_drew hB)
  have HI0 := Aside0.mk hI
  have HB0 := Aside0.mk hB
  obtain ⟨n, hn⟩ : ∃ n : Nat, s.pos = (n : Int) := ⟨s.pos.toNat, by omega⟩
  have hn2 : s.pos.toNat = n := by omega
  have HN := Aside0.mk hn
  have HBk := Aside0.mk (hb.below (w1 := w.drew) (below_drew (Below.refl _ _)))
  rw [hn2]
  clear hn hn2
  obtain ⟨k, hk⟩ : ∃ k, k = wordStartS s.text n := ⟨_, rfl⟩
  have hk2 : (k : Int) ≤ s.pos := by have h1 := wordStartS_le s.text n; have h2 := HN.out; rw [← hk] at h1; omega
  rw [← hk]
  have HKK := Aside0.mk hk
  clear hk
  clear hI hB hb hR ok
  go_enter Try.func29, Try.ntmps29
  go_wp2
  go_region
  go_wp2_with (first | (go_at_call 35; refine (wordStart_calls w.drew g s vk vu vr vl n HN.out HBk.out (by have := HN.out; omega) hts).mono ?_; rw [← HKK.out]; rintro e w2 ⟨rfl, ⟨m2, rfl⟩⟩; have HI2 := Aside0.mk (HI0.out.below (w1 := w.drewN (1 + m2)) (pw_below_drewN (Below.refl _ _) (1 + m2))); have HB2 := Aside0.mk (pw_below_drewN HB0.out (1 + m2))) | (go_at_call 39; refine (editor_worker_kill.calls w0 (w.drewN (1 + m2)) g s 14 (k : Int) s.pos HI2.out HK.out.undo HK.out.kills HK.out.each (by omega) (by omega) hp0 hp1 hts HB2.out).mono ?_; rintro e w4 ⟨rfl, h5, h6⟩; have H5 := Aside0.mk h5; have H6 := Aside0.mk h6; clear h5 h6))
  go_end0
  exact ⟨rfl, H5.out, H6.out⟩

set_option maxHeartbeats 16000000 in
set_option maxRecDepth 100000 in
theorem change_15 (w0 w : World) (g : Nat) (s : St) (x : ByteArray) (ok : OkS s) (hx : x.size ≤ 1000000) (hI : IsW w0 w g s) (hB : Below w0.heap.size w0 w) :
    Calls Try.prog 29 #[.pointer (some ⟨g, 0, none⟩), .int .i64 15, .string x] w fun e w' => e = .returned (.tuple #[]) ∧ IsW w0 w' g (if s.kills = [] then s else insertS s 15 (lastOf s.kills)) ∧ Below w0.heap.size w0 w' := by
  obtain ⟨vk, vu, vr, vl, hb, hg, hR⟩ := id hI
  obtain ⟨c0, c1, c2, c3, c4, c5, c6, c7, c8, c9, c10, c11⟩ := hb.cells
  have HK := Aside0.mk ok
  have hp0 := ok.low
  have hp1 := ok.high
  have hts := ok.text
  have HI := Aside0.mk (hI.below (w1 := w.drew) (below_drew (Below.refl _ _)))
  have HB := Aside0.mk (below_drew hB)
  have HI0 := Aside0.mk hI
  have HB0 := Aside0.mk hB
  obtain ⟨Ak, n1, rfl⟩ := Kd.R_slice hR.1
  by_cases hx : s.kills = []
  · rw [if_pos hx]
    have b1 : s.kills.length = 0 := by rw [hx]; rfl
    clear hI hB hb hR ok hx
    go_enter Try.func29, Try.ntmps29
    go_wp2
    go_region
    go_wp2
    go_end0
    exact ⟨rfl, HI.out, HB.out⟩
  · rw [if_neg hx]
    have b1 : 0 < s.kills.length := List.length_pos_iff.mpr hx
    have b2 : (0 : Int) < (s.kills.length : Int) := by omega
    obtain ⟨gk, n2, he, _⟩ := Kd.R_form hR.1 b1
    injection he with e1 e2 e3
    subst e1
    have y1 := (last_cell hR.1 b1).1
    have hl := HK.out.each _ (last_mem b1)
    have hkl := HK.out.kills
    have hw1 : IntKind.i64.wrap ((s.kills.length : Int) - 1) = ((s.kills.length - 1 : Nat) : Int) := by rw [IntKind.wrap_i64]; omega
    have hw2 : s.kills.length - 1 < s.kills.length := by omega
    clear hI hB hb hR ok hx e2 e3
    go_enter Try.func29, Try.ntmps29
    go_wp2
    go_region
    go_wp2
    go_region_with (first | (go_at_call 37; refine (editor_worker_insert.calls w0 w.drew.drew g s 15 (lastOf s.kills) (HI.out.below (below_drew (Below.refl _ _))) HK.out.undo hp0 hp1 hts (by omega) (below_drew HB.out)).mono ?_; rintro e w4 ⟨rfl, h5, h6⟩; have H5 := Aside0.mk h5; have H6 := Aside0.mk h6; clear h5 h6))
    all_goals (go_end0; exact ⟨rfl, H5.out, H6.out⟩)

set_option maxHeartbeats 16000000 in
set_option maxRecDepth 100000 in
theorem change_16 (w0 w : World) (g : Nat) (s : St) (x : ByteArray) (ok : OkS s) (hx : x.size ≤ 1000000) (hI : IsW w0 w g s) (hB : Below w0.heap.size w0 w) :
    Calls Try.prog 29 #[.pointer (some ⟨g, 0, none⟩), .int .i64 16, .string x] w fun e w' => e = .returned (.tuple #[]) ∧ IsW w0 w' g (rotateS s) ∧ Below w0.heap.size w0 w' := by
  obtain ⟨vk, vu, vr, vl, hb, hg, hR⟩ := id hI
  obtain ⟨c0, c1, c2, c3, c4, c5, c6, c7, c8, c9, c10, c11⟩ := hb.cells
  have HK := Aside0.mk ok
  have hp0 := ok.low
  have hp1 := ok.high
  have hts := ok.text
  have HI := Aside0.mk (hI.below (w1 := w.drew) (below_drew (Below.refl _ _)))
  have HB := Aside0.mk (below_drew hB)
  have HI0 := Aside0.mk hI
  have HB0 := Aside0.mk hB
  clear hI hB hb hR ok
  go_enter Try.func29, Try.ntmps29
  go_wp2
  go_region
  go_wp2_with (first | (go_at_call 40; refine (editor_worker_rotate.calls w0 w.drew g s HI.out HK.out.undo HK.out.kills HK.out.each hp0 hp1 hts HB.out).mono ?_; rintro e w4 ⟨rfl, h5, h6⟩; have H5 := Aside0.mk h5; have H6 := Aside0.mk h6; clear h5 h6))
  go_end0
  exact ⟨rfl, H5.out, H6.out⟩

set_option maxHeartbeats 16000000 in
set_option maxRecDepth 100000 in
theorem change_19 (w0 w : World) (g : Nat) (s : St) (x : ByteArray) (ok : OkS s) (hx : x.size ≤ 1000000) (hI : IsW w0 w g s) (hB : Below w0.heap.size w0 w) :
    Calls Try.prog 29 #[.pointer (some ⟨g, 0, none⟩), .int .i64 19, .string x] w fun e w' => e = .returned (.tuple #[]) ∧ IsW w0 w' g (transS s) ∧ Below w0.heap.size w0 w' := by
  obtain ⟨vk, vu, vr, vl, hb, hg, hR⟩ := id hI
  obtain ⟨c0, c1, c2, c3, c4, c5, c6, c7, c8, c9, c10, c11⟩ := hb.cells
  have HK := Aside0.mk ok
  have hp0 := ok.low
  have hp1 := ok.high
  have hts := ok.text
  have HI := Aside0.mk (hI.below (w1 := w.drew) (below_drew (Below.refl _ _)))
  have HB := Aside0.mk (below_drew hB)
  have HI0 := Aside0.mk hI
  have HB0 := Aside0.mk hB
  clear hI hB hb hR ok
  go_enter Try.func29, Try.ntmps29
  go_wp2
  go_region
  go_wp2_with (first | (go_at_call 42; refine (transpose_calls w0 w.drew g s s.pos.toNat (by omega) HI.out HK.out.undo (by omega) hts HB.out).mono ?_; rintro e w4 ⟨rfl, h5, h6⟩; have H5 := Aside0.mk h5; have H6 := Aside0.mk h6; clear h5 h6))
  go_end0
  exact ⟨rfl, H5.out, H6.out⟩

set_option maxHeartbeats 16000000 in
set_option maxRecDepth 100000 in
theorem change_27 (w0 w : World) (g : Nat) (s : St) (x : ByteArray) (ok : OkS s) (hx : x.size ≤ 1000000) (hI : IsW w0 w g s) (hB : Below w0.heap.size w0 w) :
    Calls Try.prog 29 #[.pointer (some ⟨g, 0, none⟩), .int .i64 27, .string x] w fun e w' => e = .returned (.tuple #[]) ∧ IsW w0 w' g (casedS s 27 (wordEndS s.text s.pos.toNat)) ∧ Below w0.heap.size w0 w' := by
  obtain ⟨vk, vu, vr, vl, hb, hg, hR⟩ := id hI
  obtain ⟨c0, c1, c2, c3, c4, c5, c6, c7, c8, c9, c10, c11⟩ := hb.cells
  have HK := Aside0.mk ok
  have hp0 := ok.low
  have hp1 := ok.high
  have hts := ok.text
  have HI := Aside0.mk (hI.below (w1 := w.drew) (below_drew (Below.refl _ _)))
  have HB := Aside0.mk (below_drew hB)
  have HI0 := Aside0.mk hI
  have HB0 := Aside0.mk hB
  obtain ⟨n, hn⟩ : ∃ n : Nat, s.pos = (n : Int) := ⟨s.pos.toNat, by omega⟩
  have hn2 : s.pos.toNat = n := by omega
  have HN := Aside0.mk hn
  have HBk := Aside0.mk (hb.below (w1 := w.drew) (below_drew (Below.refl _ _)))
  rw [hn2]
  clear hn hn2
  obtain ⟨k, hk⟩ : ∃ k, k = wordEndS s.text n := ⟨_, rfl⟩
  have hk1 : n ≤ k := by rw [hk]; exact wordEndS_ge _ _
  have hk2 : k ≤ s.text.size := by rw [hk]; exact wordEndS_le _ _ (by have := HN.out; omega)
  rw [← hk]
  have HKK := Aside0.mk hk
  clear hk
  clear hI hB hb hR ok
  go_enter Try.func29, Try.ntmps29
  go_wp2
  go_region
  go_wp2_with (first | (go_at_call 36; refine (wordEnd_calls w.drew g s vk vu vr vl n HN.out HBk.out (by have := HN.out; omega) hts).mono ?_; rw [← HKK.out]; rintro e w2 ⟨rfl, ⟨m2, rfl⟩⟩; have HI2 := Aside0.mk (HI0.out.below (w1 := w.drewN (1 + m2)) (pw_below_drewN (Below.refl _ _) (1 + m2))); have HB2 := Aside0.mk (pw_below_drewN HB0.out (1 + m2))) | (go_at_call 44; refine (cased_calls w0 (w.drewN (1 + m2)) g s n k 27 (by decide) HN.out HI2.out HK.out.undo hk2 hts HB2.out).mono ?_; rintro e w4 ⟨rfl, h5, h6⟩; have H5 := Aside0.mk h5; have H6 := Aside0.mk h6; clear h5 h6))
  go_end0
  exact ⟨rfl, H5.out, H6.out⟩

set_option maxHeartbeats 16000000 in
set_option maxRecDepth 100000 in
theorem change_28 (w0 w : World) (g : Nat) (s : St) (x : ByteArray) (ok : OkS s) (hx : x.size ≤ 1000000) (hI : IsW w0 w g s) (hB : Below w0.heap.size w0 w) :
    Calls Try.prog 29 #[.pointer (some ⟨g, 0, none⟩), .int .i64 28, .string x] w fun e w' => e = .returned (.tuple #[]) ∧ IsW w0 w' g (casedS s 28 (wordEndS s.text s.pos.toNat)) ∧ Below w0.heap.size w0 w' := by
  obtain ⟨vk, vu, vr, vl, hb, hg, hR⟩ := id hI
  obtain ⟨c0, c1, c2, c3, c4, c5, c6, c7, c8, c9, c10, c11⟩ := hb.cells
  have HK := Aside0.mk ok
  have hp0 := ok.low
  have hp1 := ok.high
  have hts := ok.text
  have HI := Aside0.mk (hI.below (w1 := w.drew) (below_drew (Below.refl _ _)))
  have HB := Aside0.mk (below_drew hB)
  have HI0 := Aside0.mk hI
  have HB0 := Aside0.mk hB
  obtain ⟨n, hn⟩ : ∃ n : Nat, s.pos = (n : Int) := ⟨s.pos.toNat, by omega⟩
  have hn2 : s.pos.toNat = n := by omega
  have HN := Aside0.mk hn
  have HBk := Aside0.mk (hb.below (w1 := w.drew) (below_drew (Below.refl _ _)))
  rw [hn2]
  clear hn hn2
  obtain ⟨k, hk⟩ : ∃ k, k = wordEndS s.text n := ⟨_, rfl⟩
  have hk1 : n ≤ k := by rw [hk]; exact wordEndS_ge _ _
  have hk2 : k ≤ s.text.size := by rw [hk]; exact wordEndS_le _ _ (by have := HN.out; omega)
  rw [← hk]
  have HKK := Aside0.mk hk
  clear hk
  clear hI hB hb hR ok
  go_enter Try.func29, Try.ntmps29
  go_wp2
  go_region
  go_wp2_with (first | (go_at_call 36; refine (wordEnd_calls w.drew g s vk vu vr vl n HN.out HBk.out (by have := HN.out; omega) hts).mono ?_; rw [← HKK.out]; rintro e w2 ⟨rfl, ⟨m2, rfl⟩⟩; have HI2 := Aside0.mk (HI0.out.below (w1 := w.drewN (1 + m2)) (pw_below_drewN (Below.refl _ _) (1 + m2))); have HB2 := Aside0.mk (pw_below_drewN HB0.out (1 + m2))) | (go_at_call 44; refine (cased_calls w0 (w.drewN (1 + m2)) g s n k 28 (by decide) HN.out HI2.out HK.out.undo hk2 hts HB2.out).mono ?_; rintro e w4 ⟨rfl, h5, h6⟩; have H5 := Aside0.mk h5; have H6 := Aside0.mk h6; clear h5 h6))
  go_end0
  exact ⟨rfl, H5.out, H6.out⟩
end Go.Proofs.Ytlbbjdggebgabaa.P
end

section
/- The editor's worker: change, action by action. -/
namespace Go.Proofs.Ytlbbjdggebgabaa.P
open Go.RowKit Go.Proofs.YtlbbjdggebgabaaW.PrintWords Go.Proofs.YtlbbjdggebgabaaW.PrintLast Go.Proofs.YtlbbjdggebgabaaW.PrintMore
set_option linter.unusedVariables false
set_option linter.unusedSimpArgs false

set_option maxHeartbeats 16000000 in
set_option maxRecDepth 100000 in
theorem change_17 (w0 w : World) (g : Nat) (s : St) (x : ByteArray) (ok : OkS s) (hx : x.size ≤ 1000000) (hI : IsW w0 w g s) (hB : Below w0.heap.size w0 w) :
    Calls Try.prog 29 #[.pointer (some ⟨g, 0, none⟩), .int .i64 17, .string x] w fun e w' => e = .returned (.tuple #[]) ∧ IsW w0 w' g (undoS s) ∧ Below w0.heap.size w0 w' := by
  obtain ⟨vk, vu, vr, vl, hb, hg, hR⟩ := id hI
  obtain ⟨c0, c1, c2, c3, c4, c5, c6, c7, c8, c9, c10, c11⟩ := hb.cells
  have HK := Aside0.mk ok
  have hp0 := ok.low
  have hp1 := ok.high
  have hts := ok.text
  have HI := Aside0.mk (hI.below (w1 := w.drew) (below_drew (Below.refl _ _)))
  have HB := Aside0.mk (below_drew hB)
  have HI0 := Aside0.mk hI
  have HB0 := Aside0.mk hB
  have HL := Aside0.mk hR.2.2.2
  have HRK := Aside0.mk (Kd.R_below hR.1 (w1 := w.drew) (below_drew (Below.refl _ _)))
  have HRF := Aside0.mk (Kd.R_below hR.2.1 (w1 := w.drew) (below_drew (Below.refl _ _)))
  have HRT := Aside0.mk (Kd.R_below hR.2.2.1 (w1 := w.drew) (below_drew (Below.refl _ _)))
  have HBk := Aside0.mk (hb.below (w1 := w.drew) (below_drew (Below.refl _ _)))
  obtain ⟨S1, hS1⟩ : ∃ z, z = if s.undo = [] then s else backS s s.undo := ⟨_, rfl⟩
  obtain ⟨T, hT⟩ : ∃ z, z = if s.undo = [] then s.redo else pushS s.redo ⟨s.text, s.pos⟩ := ⟨_, rfl⟩
  have hres : undoS s = { S1 with undo := s.undo.dropLast, redo := T } := by
    rw [hS1, hT]
    unfold undoS
    by_cases h : s.undo = []
    · rw [if_pos h, if_pos h, if_pos h, h, List.dropLast_nil, ← h]
    · rw [if_neg h, if_neg h, if_neg h]
  rw [hres]
  have e1 : S1.kills = s.kills := by rw [hS1]; split <;> rfl
  have e2 : S1.lines = s.lines := by rw [hS1]; split <;> rfl
  have HS1 := Aside0.mk hS1
  have HT := Aside0.mk hT
  have E1 := Aside0.mk e1
  have E2 := Aside0.mk e2
  clear hres hS1 hT e1 e2 hI hB hb hR ok
  go_enter Try.func29, Try.ntmps29
  go_wp2
  go_region
  go_wp2
  go_region_with (first | (go_at_call 41; refine (editor_worker_restore.calls w0 w.drew.drew g s vk vu vr vl vu vr s.undo s.redo HBk.out hg HRK.out HRF.out HRT.out HK.out.undo HK.out.redo (below_drew HB.out)).mono ?_; rw [← HS1.out, ← HT.out]; rintro e w4 ⟨v1, v2, rfl, h1, h2, h3, h4, h5⟩; obtain ⟨A1, k1, rfl⟩ := Kd.R_slice h3; obtain ⟨A2, k2, rfl⟩ := Kd.R_slice h4; have H5 := Aside0.mk h1; have H6 := Aside0.mk h5; have R1 := Aside0.mk h2; have R2 := Aside0.mk h3; have R3 := Aside0.mk h4; have y4 := h1.frozen.2.2.2.2.1; have y5 := h1.frozen.2.2.2.2.2.1; have d4 := h1.cells.2.2.2.2.1; have d5 := h1.cells.2.2.2.2.2.1; clear h1 h2 h3 h4 h5))
  all_goals
    go_end0
    have hdl : s.undo.dropLast.length = s.undo.length - 1 := List.length_dropLast
    have r2 := R2.out
    have r3 := R3.out
    rw [hdl] at r2 r3
    have K4 := H5.out.set4 s.undo.dropLast (.slice A1 (s.undo.length - 1) k1)
    have K5 := K4.set5 T (.slice A2 T.length k2)
    refine ⟨rfl, ⟨vk, .slice A1 (s.undo.length - 1) k1, .slice A2 T.length k2, vl, K5, hg, ?_, ?_, ?_, ?_⟩, below_set (below_set H6.out hg) hg⟩
    · show Kd.R Kd.string 9 _ _ _ vk S1.kills
      rw [E1.out]
      exact Kd.R_set (Kd.R_set R1.out H5.out (by rw [E_string]; decide) 4 _) K4 (by rw [E_string]; decide) 5 _
    · exact Kd.R_set (Kd.R_set r2 H5.out (by rw [E_k23]; decide) 4 _) K4 (by rw [E_k23]; decide) 5 _
    · exact Kd.R_set (Kd.R_set r3 H5.out (by rw [E_k23]; decide) 4 _) K4 (by rw [E_k23]; decide) 5 _
    · rw [show ({ S1 with undo := s.undo.dropLast, redo := T } : St).lines = s.lines from E2.out]
      exact HL.out

set_option maxHeartbeats 16000000 in
set_option maxRecDepth 100000 in
theorem change_18 (w0 w : World) (g : Nat) (s : St) (x : ByteArray) (ok : OkS s) (hx : x.size ≤ 1000000) (hI : IsW w0 w g s) (hB : Below w0.heap.size w0 w) :
    Calls Try.prog 29 #[.pointer (some ⟨g, 0, none⟩), .int .i64 18, .string x] w fun e w' => e = .returned (.tuple #[]) ∧ IsW w0 w' g (redoS s) ∧ Below w0.heap.size w0 w' := by
  obtain ⟨vk, vu, vr, vl, hb, hg, hR⟩ := id hI
  obtain ⟨c0, c1, c2, c3, c4, c5, c6, c7, c8, c9, c10, c11⟩ := hb.cells
  have HK := Aside0.mk ok
  have hp0 := ok.low
  have hp1 := ok.high
  have hts := ok.text
  have HI := Aside0.mk (hI.below (w1 := w.drew) (below_drew (Below.refl _ _)))
  have HB := Aside0.mk (below_drew hB)
  have HI0 := Aside0.mk hI
  have HB0 := Aside0.mk hB
  have HL := Aside0.mk hR.2.2.2
  have HRK := Aside0.mk (Kd.R_below hR.1 (w1 := w.drew) (below_drew (Below.refl _ _)))
  have HRF := Aside0.mk (Kd.R_below hR.2.2.1 (w1 := w.drew) (below_drew (Below.refl _ _)))
  have HRT := Aside0.mk (Kd.R_below hR.2.1 (w1 := w.drew) (below_drew (Below.refl _ _)))
  have HBk := Aside0.mk (hb.below (w1 := w.drew) (below_drew (Below.refl _ _)))
  obtain ⟨S1, hS1⟩ : ∃ z, z = if s.redo = [] then s else backS s s.redo := ⟨_, rfl⟩
  obtain ⟨T, hT⟩ : ∃ z, z = if s.redo = [] then s.undo else pushS s.undo ⟨s.text, s.pos⟩ := ⟨_, rfl⟩
  have hres : redoS s = { S1 with redo := s.redo.dropLast, undo := T } := by
    rw [hS1, hT]
    unfold redoS
    by_cases h : s.redo = []
    · rw [if_pos h, if_pos h, if_pos h, h, List.dropLast_nil, ← h]
    · rw [if_neg h, if_neg h, if_neg h]
  rw [hres]
  have e1 : S1.kills = s.kills := by rw [hS1]; split <;> rfl
  have e2 : S1.lines = s.lines := by rw [hS1]; split <;> rfl
  have HS1 := Aside0.mk hS1
  have HT := Aside0.mk hT
  have E1 := Aside0.mk e1
  have E2 := Aside0.mk e2
  clear hres hS1 hT e1 e2 hI hB hb hR ok
  go_enter Try.func29, Try.ntmps29
  go_wp2
  go_region
  go_wp2
  go_region_with (first | (go_at_call 41; refine (editor_worker_restore.calls w0 w.drew.drew g s vk vu vr vl vr vu s.redo s.undo HBk.out hg HRK.out HRF.out HRT.out HK.out.redo HK.out.undo (below_drew HB.out)).mono ?_; rw [← HS1.out, ← HT.out]; rintro e w4 ⟨v1, v2, rfl, h1, h2, h3, h4, h5⟩; obtain ⟨A1, k1, rfl⟩ := Kd.R_slice h3; obtain ⟨A2, k2, rfl⟩ := Kd.R_slice h4; have H5 := Aside0.mk h1; have H6 := Aside0.mk h5; have R1 := Aside0.mk h2; have R2 := Aside0.mk h3; have R3 := Aside0.mk h4; have y4 := h1.frozen.2.2.2.2.1; have y5 := h1.frozen.2.2.2.2.2.1; have d4 := h1.cells.2.2.2.2.1; have d5 := h1.cells.2.2.2.2.2.1; clear h1 h2 h3 h4 h5))
  all_goals
    go_end0
    have hdl : s.redo.dropLast.length = s.redo.length - 1 := List.length_dropLast
    have r2 := R2.out
    have r3 := R3.out
    rw [hdl] at r2 r3
    have K4 := H5.out.set5 s.redo.dropLast (.slice A1 (s.redo.length - 1) k1)
    have K5 := K4.set4 T (.slice A2 T.length k2)
    refine ⟨rfl, ⟨vk, .slice A2 T.length k2, .slice A1 (s.redo.length - 1) k1, vl, K5, hg, ?_, ?_, ?_, ?_⟩, below_set (below_set H6.out hg) hg⟩
    · show Kd.R Kd.string 9 _ _ _ vk S1.kills
      rw [E1.out]
      exact Kd.R_set (Kd.R_set R1.out H5.out (by rw [E_string]; decide) 5 _) K4 (by rw [E_string]; decide) 4 _
    · exact Kd.R_set (Kd.R_set r3 H5.out (by rw [E_k23]; decide) 5 _) K4 (by rw [E_k23]; decide) 4 _
    · exact Kd.R_set (Kd.R_set r2 H5.out (by rw [E_k23]; decide) 5 _) K4 (by rw [E_k23]; decide) 4 _
    · rw [show ({ S1 with redo := s.redo.dropLast, undo := T } : St).lines = s.lines from E2.out]
      exact HL.out

set_option maxHeartbeats 16000000 in
set_option maxRecDepth 100000 in
theorem change_20 (w0 w : World) (g : Nat) (s : St) (x : ByteArray) (ok : OkS s) (hx : x.size ≤ 1000000) (hI : IsW w0 w g s) (hB : Below w0.heap.size w0 w) :
    Calls Try.prog 29 #[.pointer (some ⟨g, 0, none⟩), .int .i64 20, .string x] w fun e w' => e = .returned (.tuple #[]) ∧ IsW w0 w' g (upS s) ∧ Below w0.heap.size w0 w' := by
  obtain ⟨vk, vu, vr, vl, hb, hg, hR⟩ := id hI
  obtain ⟨c0, c1, c2, c3, c4, c5, c6, c7, c8, c9, c10, c11⟩ := hb.cells
  have HK := Aside0.mk ok
  have hp0 := ok.low
  have hp1 := ok.high
  have hts := ok.text
  have HI := Aside0.mk (hI.below (w1 := w.drew) (below_drew (Below.refl _ _)))
  have HB := Aside0.mk (below_drew hB)
  have HI0 := Aside0.mk hI
  have HB0 := Aside0.mk hB
  have hl0 := ok.line0
  have hl1 := ok.line1
  have hl2 := ok.lines
  obtain ⟨Al, cl, rfl, hlc, hCl⟩ := hR.2.2.2
  unfold upS
  by_cases hx : s.line < (s.lines.length : Int) ∧ s.line < 128
  · rw [if_pos hx]
    obtain ⟨q1, q2⟩ := hx
    have q3 := decide_eq_true q1
    have q4 := decide_eq_true q2
    clear hI hB hb hR ok hCl
    go_enter Try.func29, Try.ntmps29
    go_wp2
    go_region
    go_wp2
    go_region
    go_wp2_with (first | (go_at_call 43; refine (editor_worker_line.calls w0 w.drew.drew g s (s.line + 1) (HI.out.below (below_drew (Below.refl _ _))) (by omega) (by omega) hl2 (below_drew HB.out)).mono ?_; rintro e w4 ⟨rfl, h5, h6⟩; have H5 := Aside0.mk h5; have H6 := Aside0.mk h6; clear h5 h6))
    go_end0
    exact ⟨rfl, H5.out, H6.out⟩
  · rw [if_neg hx]
    have hx2 : decide (s.line < (s.lines.length : Int)) = false ∨ (decide (s.line < (s.lines.length : Int)) = true ∧ decide (s.line < 128) = false) := by simp only [decide_eq_true_eq, decide_eq_false_iff_not]; omega
    clear hI hB hb hR ok hCl hx
    rcases hx2 with q1 | ⟨q1, q2⟩
    all_goals
      go_enter Try.func29, Try.ntmps29
      go_wp2
      go_region
      go_wp2
      go_region
      go_wp2
      go_end0
      exact ⟨rfl, HI.out.below (below_drew (Below.refl _ _)), below_drew HB.out⟩

set_option maxHeartbeats 16000000 in
set_option maxRecDepth 100000 in
theorem change_21 (w0 w : World) (g : Nat) (s : St) (x : ByteArray) (ok : OkS s) (hx : x.size ≤ 1000000) (hI : IsW w0 w g s) (hB : Below w0.heap.size w0 w) :
    Calls Try.prog 29 #[.pointer (some ⟨g, 0, none⟩), .int .i64 21, .string x] w fun e w' => e = .returned (.tuple #[]) ∧ IsW w0 w' g (downS s) ∧ Below w0.heap.size w0 w' := by
  obtain ⟨vk, vu, vr, vl, hb, hg, hR⟩ := id hI
  obtain ⟨c0, c1, c2, c3, c4, c5, c6, c7, c8, c9, c10, c11⟩ := hb.cells
  have HK := Aside0.mk ok
  have hp0 := ok.low
  have hp1 := ok.high
  have hts := ok.text
  have HI := Aside0.mk (hI.below (w1 := w.drew) (below_drew (Below.refl _ _)))
  have HB := Aside0.mk (below_drew hB)
  have HI0 := Aside0.mk hI
  have HB0 := Aside0.mk hB
  have hl0 := ok.line0
  have hl1 := ok.line1
  have hl2 := ok.lines
  obtain ⟨Al, cl, rfl, hlc, hCl⟩ := hR.2.2.2
  unfold downS
  by_cases hx : 0 < s.line ∧ s.line ≤ (s.lines.length : Int)
  · rw [if_pos hx]
    obtain ⟨q1, q2⟩ := hx
    have q3 := decide_eq_true q1
    have q4 := decide_eq_true q2
    clear hI hB hb hR ok hCl
    go_enter Try.func29, Try.ntmps29
    go_wp2
    go_region
    go_wp2
    go_region
    go_wp2_with (first | (go_at_call 43; refine (editor_worker_line.calls w0 w.drew.drew g s (s.line - 1) (HI.out.below (below_drew (Below.refl _ _))) (by omega) (by omega) hl2 (below_drew HB.out)).mono ?_; rintro e w4 ⟨rfl, h5, h6⟩; have H5 := Aside0.mk h5; have H6 := Aside0.mk h6; clear h5 h6))
    go_end0
    exact ⟨rfl, H5.out, H6.out⟩
  · rw [if_neg hx]
    have hx2 : decide (0 < s.line) = false ∨ (decide (0 < s.line) = true ∧ decide (s.line ≤ (s.lines.length : Int)) = false) := by simp only [decide_eq_true_eq, decide_eq_false_iff_not]; omega
    clear hI hB hb hR ok hCl hx
    rcases hx2 with q1 | ⟨q1, q2⟩
    all_goals
      go_enter Try.func29, Try.ntmps29
      go_wp2
      go_region
      go_wp2
      go_region
      go_wp2
      go_end0
      exact ⟨rfl, HI.out.below (below_drew (Below.refl _ _)), below_drew HB.out⟩
end Go.Proofs.Ytlbbjdggebgabaa.P
end

section
/- The editor's worker: change. -/
namespace Go.Proofs.Ytlbbjdggebgabaa.P
open Go.RowKit Go.Proofs.YtlbbjdggebgabaaW.PrintWords Go.Proofs.YtlbbjdggebgabaaW.PrintLast Go.Proofs.YtlbbjdggebgabaaW.PrintMore
set_option linter.unusedVariables false
set_option linter.unusedSimpArgs false

set_option maxHeartbeats 16000000 in
set_option maxRecDepth 100000 in
theorem change_none (w0 w : World) (g : Nat) (s : St) (a : Int) (x : ByteArray) (hI : IsW w0 w g s) (hB : Below w0.heap.size w0 w)
    (b1 : (a == 1) = false) (b9 : (a == 9) = false) (b10 : (a == 10) = false) (b23 : (a == 23) = false) (b11 : (a == 11) = false) (b12 : (a == 12) = false) (b13 : (a == 13) = false) (b14 : (a == 14) = false) (b15 : (a == 15) = false) (b16 : (a == 16) = false) (b17 : (a == 17) = false) (b18 : (a == 18) = false) (b19 : (a == 19) = false) (b20 : (a == 20) = false) (b21 : (a == 21) = false) (b27 : (a == 27) = false) (b28 : (a == 28) = false) :
    Calls Try.prog 29 #[.pointer (some ⟨g, 0, none⟩), .int .i64 a, .string x] w fun e w' => e = .returned (.tuple #[]) ∧ IsW w0 w' g s ∧ Below w0.heap.size w0 w' := by
  obtain ⟨vk, vu, vr, vl, hb, hg, hR⟩ := id hI
  obtain ⟨c0, c1, c2, c3, c4, c5, c6, c7, c8, c9, c10, c11⟩ := hb.cells
  have HI := Aside0.mk (hI.below (w1 := w.drew) (below_drew (Below.refl _ _)))
  have HB := Aside0.mk (below_drew hB)
  clear hI hB hb hR
  go_enter Try.func29, Try.ntmps29
  go_wp2
  go_region
  go_wp2
  go_end0
  exact ⟨rfl, HI.out, HB.out⟩

theorem change_calls (w0 w : World) (g : Nat) (s : St) (a : Int) (x : ByteArray) (ok : OkS s) (hx : x.size ≤ 1000000) (hI : IsW w0 w g s) (hB : Below w0.heap.size w0 w) :
    Calls Try.prog 29 #[.pointer (some ⟨g, 0, none⟩), .int .i64 a, .string x] w fun e w' => e = .returned (.tuple #[]) ∧ IsW w0 w' g (changeS s a x) ∧ Below w0.heap.size w0 w' := by
  by_cases a1 : a = 1
  · subst a1
    have h := change_1 w0 w g s x ok hx hI hB
    unfold changeS
    rw [if_pos rfl]
    exact h
  by_cases a9 : a = 9
  · subst a9
    have h := change_9 w0 w g s x ok hx hI hB
    unfold changeS
    rw [if_neg (by decide)]
    rw [if_pos rfl]
    exact h
  by_cases a10 : a = 10
  · subst a10
    have h := change_10 w0 w g s x ok hx hI hB
    unfold changeS
    rw [if_neg (by decide)]
    rw [if_neg (by decide)]
    rw [if_pos rfl]
    exact h
  by_cases a23 : a = 23
  · subst a23
    have h := change_23 w0 w g s x ok hx hI hB
    unfold changeS
    rw [if_neg (by decide)]
    rw [if_neg (by decide)]
    rw [if_neg (by decide)]
    rw [if_pos rfl]
    exact h
  by_cases a11 : a = 11
  · subst a11
    have h := change_11 w0 w g s x ok hx hI hB
    unfold changeS
    rw [if_neg (by decide)]
    rw [if_neg (by decide)]
    rw [if_neg (by decide)]
    rw [if_neg (by decide)]
    rw [if_pos rfl]
    exact h
  by_cases a12 : a = 12
  · subst a12
    have h := change_12 w0 w g s x ok hx hI hB
    unfold changeS
    rw [if_neg (by decide)]
    rw [if_neg (by decide)]
    rw [if_neg (by decide)]
    rw [if_neg (by decide)]
    rw [if_neg (by decide)]
    rw [if_pos rfl]
    exact h
  by_cases a13 : a = 13
  · subst a13
    have h := change_13 w0 w g s x ok hx hI hB
    unfold changeS
    rw [if_neg (by decide)]
    rw [if_neg (by decide)]
    rw [if_neg (by decide)]
    rw [if_neg (by decide)]
    rw [if_neg (by decide)]
    rw [if_neg (by decide)]
    rw [if_pos rfl]
    exact h
  by_cases a14 : a = 14
  · subst a14
    have h := change_14 w0 w g s x ok hx hI hB
    unfold changeS
    rw [if_neg (by decide)]
    rw [if_neg (by decide)]
    rw [if_neg (by decide)]
    rw [if_neg (by decide)]
    rw [if_neg (by decide)]
    rw [if_neg (by decide)]
    rw [if_neg (by decide)]
    rw [if_pos rfl]
    exact h
  by_cases a15 : a = 15
  · subst a15
    have h := change_15 w0 w g s x ok hx hI hB
    unfold changeS
    rw [if_neg (by decide)]
    rw [if_neg (by decide)]
    rw [if_neg (by decide)]
    rw [if_neg (by decide)]
    rw [if_neg (by decide)]
    rw [if_neg (by decide)]
    rw [if_neg (by decide)]
    rw [if_neg (by decide)]
    rw [if_pos rfl]
    exact h
  by_cases a16 : a = 16
  · subst a16
    have h := change_16 w0 w g s x ok hx hI hB
    unfold changeS
    rw [if_neg (by decide)]
    rw [if_neg (by decide)]
    rw [if_neg (by decide)]
    rw [if_neg (by decide)]
    rw [if_neg (by decide)]
    rw [if_neg (by decide)]
    rw [if_neg (by decide)]
    rw [if_neg (by decide)]
    rw [if_neg (by decide)]
    rw [if_pos rfl]
    exact h
  by_cases a17 : a = 17
  · subst a17
    have h := change_17 w0 w g s x ok hx hI hB
    unfold changeS
    rw [if_neg (by decide)]
    rw [if_neg (by decide)]
    rw [if_neg (by decide)]
    rw [if_neg (by decide)]
    rw [if_neg (by decide)]
    rw [if_neg (by decide)]
    rw [if_neg (by decide)]
    rw [if_neg (by decide)]
    rw [if_neg (by decide)]
    rw [if_neg (by decide)]
    rw [if_pos rfl]
    exact h
  by_cases a18 : a = 18
  · subst a18
    have h := change_18 w0 w g s x ok hx hI hB
    unfold changeS
    rw [if_neg (by decide)]
    rw [if_neg (by decide)]
    rw [if_neg (by decide)]
    rw [if_neg (by decide)]
    rw [if_neg (by decide)]
    rw [if_neg (by decide)]
    rw [if_neg (by decide)]
    rw [if_neg (by decide)]
    rw [if_neg (by decide)]
    rw [if_neg (by decide)]
    rw [if_neg (by decide)]
    rw [if_pos rfl]
    exact h
  by_cases a19 : a = 19
  · subst a19
    have h := change_19 w0 w g s x ok hx hI hB
    unfold changeS
    rw [if_neg (by decide)]
    rw [if_neg (by decide)]
    rw [if_neg (by decide)]
    rw [if_neg (by decide)]
    rw [if_neg (by decide)]
    rw [if_neg (by decide)]
    rw [if_neg (by decide)]
    rw [if_neg (by decide)]
    rw [if_neg (by decide)]
    rw [if_neg (by decide)]
    rw [if_neg (by decide)]
    rw [if_neg (by decide)]
    rw [if_pos rfl]
    exact h
  by_cases a20 : a = 20
  · subst a20
    have h := change_20 w0 w g s x ok hx hI hB
    unfold changeS
    rw [if_neg (by decide)]
    rw [if_neg (by decide)]
    rw [if_neg (by decide)]
    rw [if_neg (by decide)]
    rw [if_neg (by decide)]
    rw [if_neg (by decide)]
    rw [if_neg (by decide)]
    rw [if_neg (by decide)]
    rw [if_neg (by decide)]
    rw [if_neg (by decide)]
    rw [if_neg (by decide)]
    rw [if_neg (by decide)]
    rw [if_neg (by decide)]
    rw [if_pos rfl]
    exact h
  by_cases a21 : a = 21
  · subst a21
    have h := change_21 w0 w g s x ok hx hI hB
    unfold changeS
    rw [if_neg (by decide)]
    rw [if_neg (by decide)]
    rw [if_neg (by decide)]
    rw [if_neg (by decide)]
    rw [if_neg (by decide)]
    rw [if_neg (by decide)]
    rw [if_neg (by decide)]
    rw [if_neg (by decide)]
    rw [if_neg (by decide)]
    rw [if_neg (by decide)]
    rw [if_neg (by decide)]
    rw [if_neg (by decide)]
    rw [if_neg (by decide)]
    rw [if_neg (by decide)]
    rw [if_pos rfl]
    exact h
  by_cases a27 : a = 27
  · subst a27
    have h := change_27 w0 w g s x ok hx hI hB
    unfold changeS
    rw [if_neg (by decide)]
    rw [if_neg (by decide)]
    rw [if_neg (by decide)]
    rw [if_neg (by decide)]
    rw [if_neg (by decide)]
    rw [if_neg (by decide)]
    rw [if_neg (by decide)]
    rw [if_neg (by decide)]
    rw [if_neg (by decide)]
    rw [if_neg (by decide)]
    rw [if_neg (by decide)]
    rw [if_neg (by decide)]
    rw [if_neg (by decide)]
    rw [if_neg (by decide)]
    rw [if_neg (by decide)]
    rw [if_pos rfl]
    exact h
  by_cases a28 : a = 28
  · subst a28
    have h := change_28 w0 w g s x ok hx hI hB
    unfold changeS
    rw [if_neg (by decide)]
    rw [if_neg (by decide)]
    rw [if_neg (by decide)]
    rw [if_neg (by decide)]
    rw [if_neg (by decide)]
    rw [if_neg (by decide)]
    rw [if_neg (by decide)]
    rw [if_neg (by decide)]
    rw [if_neg (by decide)]
    rw [if_neg (by decide)]
    rw [if_neg (by decide)]
    rw [if_neg (by decide)]
    rw [if_neg (by decide)]
    rw [if_neg (by decide)]
    rw [if_neg (by decide)]
    rw [if_neg (by decide)]
    rw [if_pos rfl]
    exact h
  have hn : changeS s a x = s := by
    unfold changeS
    rw [if_neg a1, if_neg a9, if_neg a10, if_neg a23, if_neg a11, if_neg a12, if_neg a13, if_neg a14, if_neg a15, if_neg a16, if_neg a17, if_neg a18, if_neg a19, if_neg a20, if_neg a21, if_neg a27, if_neg a28]
  rw [hn]
  exact change_none w0 w g s a x hI hB (beq_eq_false_iff_ne.mpr a1) (beq_eq_false_iff_ne.mpr a9) (beq_eq_false_iff_ne.mpr a10) (beq_eq_false_iff_ne.mpr a23) (beq_eq_false_iff_ne.mpr a11) (beq_eq_false_iff_ne.mpr a12) (beq_eq_false_iff_ne.mpr a13) (beq_eq_false_iff_ne.mpr a14) (beq_eq_false_iff_ne.mpr a15) (beq_eq_false_iff_ne.mpr a16) (beq_eq_false_iff_ne.mpr a17) (beq_eq_false_iff_ne.mpr a18) (beq_eq_false_iff_ne.mpr a19) (beq_eq_false_iff_ne.mpr a20) (beq_eq_false_iff_ne.mpr a21) (beq_eq_false_iff_ne.mpr a27) (beq_eq_false_iff_ne.mpr a28)
end Go.Proofs.Ytlbbjdggebgabaa.P
end

section
/- The editor: Do. -/
namespace Go.Proofs.Ytlbbjdggebgabaa.P
open Go.RowKit Go.Proofs.YtlbbjdggebgabaaW.PrintWords Go.Proofs.YtlbbjdggebgabaaW.PrintLast Go.Proofs.YtlbbjdggebgabaaW.PrintMore
set_option linter.unusedVariables false
set_option linter.unusedSimpArgs false

def doneS (s : St) (a : Int) (x : ByteArray) : St := { (if moves a = true then moveS s a else changeS s a x) with last := a }
def doS (s : St) (a : Int) (x : ByteArray) : St := if a < 0 ∨ 28 < a then s else doneS s a x
/-- An editor's value with its lists in a world. -/
def EdC (w : World) (s : St) (v : Value) : Prop := ∃ (Ak Au Ar : Option Addr) (ck cu cr : Nat), v = edV s (.slice Ak s.kills.length ck) (.slice Au s.undo.length cu) (.slice Ar s.redo.length cr) ∧
  Kd.C Kd.string w Ak s.kills.length s.kills ∧ Kd.C k23 w Au s.undo.length s.undo ∧ Kd.C k23 w Ar s.redo.length s.redo
/-- The same, with lists of the call's own. -/
def EdR (w : World) (base : Nat) (s : St) (v : Value) : Prop := ∃ (Ak Au Ar : Option Addr) (ck cu cr : Nat), v = edV s (.slice Ak s.kills.length ck) (.slice Au s.undo.length cu) (.slice Ar s.redo.length cr) ∧
  Kd.R Kd.string 9 w base (fun _ => True) (.slice Ak s.kills.length ck) s.kills ∧ Kd.R k23 23 w base (fun _ => True) (.slice Au s.undo.length cu) s.undo ∧ Kd.R k23 23 w base (fun _ => True) (.slice Ar s.redo.length cr) s.redo
/-- A history's value with its lines in a world. -/
def HiC (w : World) (off : Int) (l : List ByteArray) (v : Value) : Prop := ∃ (Al : Option Addr) (cl : Nat), v = .agg #[.int .i64 off, .slice Al l.length cl] ∧ l.length ≤ cl ∧ Kd.C Kd.string w Al l.length l
theorem EdC.below {w w1 : World} {s : St} {v : Value} (h : EdC w s v) (hb : Below w.heap.size w w1) : EdC w1 s v := by
  obtain ⟨Ak, Au, Ar, ck, cu, cr, rfl, h1, h2, h3⟩ := h
  exact ⟨Ak, Au, Ar, ck, cu, cr, rfl, Kd.C_below h1 hb, Kd.C_below h2 hb, Kd.C_below h3 hb⟩
theorem HiC.below {w w1 : World} {off : Int} {l : List ByteArray} {v : Value} (h : HiC w off l v) (hb : Below w.heap.size w w1) : HiC w1 off l v := by
  obtain ⟨Al, cl, rfl, h1, h2⟩ := h
  exact ⟨Al, cl, rfl, h1, Kd.C_below h2 hb⟩
theorem C_of_R {α : Type} {kd : Kd α} {e : TypeId} {w : World} {base : Nat} {ok : Nat → Prop} {A : Option Addr} {n c : Nat} {xs : List α} (h : Kd.R kd e w base ok (.slice A n c) xs) : Kd.C kd w A xs.length xs := by
  exact (Kd.R_reads' h).2.2
theorem EdR.ed {w : World} {base : Nat} {s : St} {v : Value} (h : EdR w base s v) : EdC w s v := by
  obtain ⟨Ak, Au, Ar, ck, cu, cr, rfl, h1, h2, h3⟩ := h
  exact ⟨Ak, Au, Ar, ck, cu, cr, rfl, C_of_R h1, C_of_R h2, C_of_R h3⟩
theorem EdR.below {w w1 : World} {base : Nat} {s : St} {v : Value} (h : EdR w base s v) (hb : Below w.heap.size w w1) : EdR w1 base s v := by
  obtain ⟨Ak, Au, Ar, ck, cu, cr, rfl, h1, h2, h3⟩ := h
  exact ⟨Ak, Au, Ar, ck, cu, cr, rfl, Kd.R_below h1 hb, Kd.R_below h2 hb, Kd.R_below h3 hb⟩
theorem EdR.lower {w : World} {base b : Nat} {s : St} {v : Value} (h : EdR w base s v) (hb : b ≤ base) : EdR w b s v := by
  obtain ⟨Ak, Au, Ar, ck, cu, cr, rfl, h1, h2, h3⟩ := h
  exact ⟨Ak, Au, Ar, ck, cu, cr, rfl, Kd.R_lower h1 hb, Kd.R_lower h2 hb, Kd.R_lower h3 hb⟩
theorem blk_new3 (w : World) (a b : Obj) (cs : Array Value) (t : TypeId) : (((w.alloc a).alloc b).alloc (.cells cs t)).heap[w.heap.size + 1 + 1]? = some (.cells cs t (0, 0)) := by
  have h := blk_new ((w.alloc a).alloc b) (.cells cs t)
  simpa using h
theorem moveS_keep (s : St) (a : Int) : (moveS s a).kills = s.kills ∧ (moveS s a).undo = s.undo ∧ (moveS s a).redo = s.redo ∧ (moveS s a).lines = s.lines := by
  unfold moveS
  repeat' split
  all_goals exact ⟨rfl, rfl, rfl, rfl⟩
theorem moveS_not (s : St) (a : Int) (h : moves a = false) : moveS s a = s := by
  unfold moves at h
  simp only [Bool.or_eq_false_iff, beq_eq_false_iff_ne, ne_eq] at h
  obtain ⟨⟨⟨⟨⟨⟨⟨h1, h2⟩, h3⟩, h4⟩, h5⟩, h6⟩, h7⟩, h8⟩ := h
  unfold moveS
  rw [if_neg h1, if_neg h2, if_neg h3, if_neg h4, if_neg h5, if_neg h6, if_neg h7, if_neg h8]
theorem IsW_keep {w0 w w' : World} {g : Nat} {s s' : St} {vk vu vr vl : Value} (hb : Blk w g s vk vu vr vl) (hr : Rows w0 w s vk vu vr vl) (hb' : Blk w' g s' vk vu vr vl) (hg : w0.heap.size ≤ g) (hk : KeepBut w w' g none)
    (he : s'.kills = s.kills ∧ s'.undo = s.undo ∧ s'.redo = s.redo ∧ s'.lines = s.lines) : IsW w0 w' g s' := by
  refine ⟨vk, vu, vr, vl, hb', hg, Rows.scal ⟨R_own rfl (by decide) hr.1 hb hk, R_own rfl (by decide) hr.2.1 hb hk, R_own rfl (by decide) hr.2.2.1 hb hk, hr.2.2.2⟩ he.1 he.2.1 he.2.2.1 he.2.2.2⟩
theorem IsW.R {w0 w : World} {g : Nat} {s : St} (h : IsW w0 w g s) : ∃ (Ak Au Ar : Option Addr) (ck cu cr : Nat) (vl : Value), Blk w g s (.slice Ak s.kills.length ck) (.slice Au s.undo.length cu) (.slice Ar s.redo.length cr) vl ∧ w0.heap.size ≤ g ∧
    Kd.R Kd.string 9 w w0.heap.size (fun _ => True) (.slice Ak s.kills.length ck) s.kills ∧ Kd.R k23 23 w w0.heap.size (fun _ => True) (.slice Au s.undo.length cu) s.undo ∧ Kd.R k23 23 w w0.heap.size (fun _ => True) (.slice Ar s.redo.length cr) s.redo := by
  obtain ⟨vk, vu, vr, vl, h1, h2, h3, h4, h5, h6⟩ := h
  obtain ⟨Ak, ck, rfl⟩ := Kd.R_slice h3
  obtain ⟨Au, cu, rfl⟩ := Kd.R_slice h4
  obtain ⟨Ar, cr, rfl⟩ := Kd.R_slice h5
  exact ⟨Ak, Au, Ar, ck, cu, cr, vl, h1, h2, h3, Kd.R_mono h4 (fun _ _ => trivial), Kd.R_mono h5 (fun _ _ => trivial)⟩

/-- A box of ten cells, written anew. -/
def fillW (w : World) (rb : Nat) (v0 v1 v2 v3 v4 v5 v6 v7 v8 v9 : Value) : World := ((((((((((w.setCell ⟨rb, 0, none⟩ v0).setCell ⟨rb, 1, none⟩ v1).setCell ⟨rb, 2, none⟩ v2).setCell ⟨rb, 3, none⟩ v3).setCell ⟨rb, 4, none⟩ v4).setCell ⟨rb, 5, none⟩ v5).setCell ⟨rb, 6, none⟩ v6).setCell ⟨rb, 7, none⟩ v7).setCell ⟨rb, 8, none⟩ v8).setCell ⟨rb, 9, none⟩ v9)
section
variable {w : World} {rb : Nat} {z0 z1 z2 z3 z4 z5 z6 z7 z8 z9 v0 v1 v2 v3 v4 v5 v6 v7 v8 v9 : Value}
theorem fillW_blk (h : w.heap[rb]? = some (.cells #[z0, z1, z2, z3, z4, z5, z6, z7, z8, z9] 27 (0, 0))) : (fillW w rb v0 v1 v2 v3 v4 v5 v6 v7 v8 v9).heap[rb]? = some (.cells #[v0, v1, v2, v3, v4, v5, v6, v7, v8, v9] 27 (0, 0)) := by
  unfold fillW
  have h0 := blk_put (cs := #[z0, z1, z2, z3, z4, z5, z6, z7, z8, z9]) (cs' := #[v0, z1, z2, z3, z4, z5, z6, z7, z8, z9]) h 0 v0 rfl
  have h1 := blk_put (cs := #[v0, z1, z2, z3, z4, z5, z6, z7, z8, z9]) (cs' := #[v0, v1, z2, z3, z4, z5, z6, z7, z8, z9]) h0 1 v1 rfl
  have h2 := blk_put (cs := #[v0, v1, z2, z3, z4, z5, z6, z7, z8, z9]) (cs' := #[v0, v1, v2, z3, z4, z5, z6, z7, z8, z9]) h1 2 v2 rfl
  have h3 := blk_put (cs := #[v0, v1, v2, z3, z4, z5, z6, z7, z8, z9]) (cs' := #[v0, v1, v2, v3, z4, z5, z6, z7, z8, z9]) h2 3 v3 rfl
  have h4 := blk_put (cs := #[v0, v1, v2, v3, z4, z5, z6, z7, z8, z9]) (cs' := #[v0, v1, v2, v3, v4, z5, z6, z7, z8, z9]) h3 4 v4 rfl
  have h5 := blk_put (cs := #[v0, v1, v2, v3, v4, z5, z6, z7, z8, z9]) (cs' := #[v0, v1, v2, v3, v4, v5, z6, z7, z8, z9]) h4 5 v5 rfl
  have h6 := blk_put (cs := #[v0, v1, v2, v3, v4, v5, z6, z7, z8, z9]) (cs' := #[v0, v1, v2, v3, v4, v5, v6, z7, z8, z9]) h5 6 v6 rfl
  have h7 := blk_put (cs := #[v0, v1, v2, v3, v4, v5, v6, z7, z8, z9]) (cs' := #[v0, v1, v2, v3, v4, v5, v6, v7, z8, z9]) h6 7 v7 rfl
  have h8 := blk_put (cs := #[v0, v1, v2, v3, v4, v5, v6, v7, z8, z9]) (cs' := #[v0, v1, v2, v3, v4, v5, v6, v7, v8, z9]) h7 8 v8 rfl
  have h9 := blk_put (cs := #[v0, v1, v2, v3, v4, v5, v6, v7, v8, z9]) (cs' := #[v0, v1, v2, v3, v4, v5, v6, v7, v8, v9]) h8 9 v9 rfl
  exact h9
theorem fillW_R {α : Type} {d : Kd α} {e base : Nat} {ok : Nat → Prop} {v : Value} {xs : List α} (hE : d.E = []) (he : e ≠ 27) (h : d.R e w base ok v xs) (hb : w.heap[rb]? = some (.cells #[z0, z1, z2, z3, z4, z5, z6, z7, z8, z9] 27 (0, 0))) : d.R e (fillW w rb v0 v1 v2 v3 v4 v5 v6 v7 v8 v9) base ok v xs := by
  unfold fillW
  have hne : ∀ q, q ∈ e :: d.E → q ≠ 27 := by rw [hE]; intro q hq; simp at hq; subst hq; exact he
  have b0 := blk_set hb 0 v0
  have r0 := Kd.R_set h hb hne 0 v0
  have b1 := blk_set b0 1 v1
  have r1 := Kd.R_set r0 b0 hne 1 v1
  have b2 := blk_set b1 2 v2
  have r2 := Kd.R_set r1 b1 hne 2 v2
  have b3 := blk_set b2 3 v3
  have r3 := Kd.R_set r2 b2 hne 3 v3
  have b4 := blk_set b3 4 v4
  have r4 := Kd.R_set r3 b3 hne 4 v4
  have b5 := blk_set b4 5 v5
  have r5 := Kd.R_set r4 b4 hne 5 v5
  have b6 := blk_set b5 6 v6
  have r6 := Kd.R_set r5 b5 hne 6 v6
  have b7 := blk_set b6 7 v7
  have r7 := Kd.R_set r6 b6 hne 7 v7
  have b8 := blk_set b7 8 v8
  have r8 := Kd.R_set r7 b7 hne 8 v8
  have b9 := blk_set b8 9 v9
  have r9 := Kd.R_set r8 b8 hne 9 v9
  exact r9
theorem fillW_below {w0 : World} (hb : Below w0.heap.size w0 w) (hg : w0.heap.size ≤ rb) : Below w0.heap.size w0 (fillW w rb v0 v1 v2 v3 v4 v5 v6 v7 v8 v9) := by
  unfold fillW
  exact below_set (below_set (below_set (below_set (below_set (below_set (below_set (below_set (below_set (below_set hb hg) hg) hg) hg) hg) hg) hg) hg) hg) hg
end
theorem fill_end {w w3 : World} {g rb base : Nat} {s : St} {Ak Au Ar : Option Addr} {ck cu cr : Nat} {vl z0 z1 z2 z3 z4 z5 z6 z7 z8 z9 : Value} (a : Int) (H1 : Blk w3 g s (.slice Ak s.kills.length ck) (.slice Au s.undo.length cu) (.slice Ar s.redo.length cr) vl)
    (H3 : Kd.R Kd.string 9 w3 base (fun _ => True) (.slice Ak s.kills.length ck) s.kills) (H4 : Kd.R k23 23 w3 base (fun _ => True) (.slice Au s.undo.length cu) s.undo) (H5 : Kd.R k23 23 w3 base (fun _ => True) (.slice Ar s.redo.length cr) s.redo)
    (hbx : w3.heap[rb]? = some (.cells #[z0, z1, z2, z3, z4, z5, z6, z7, z8, z9] 27 (0, 0))) (hb : Below w.heap.size w w3) (hg : w.heap.size ≤ g) (hr : w.heap.size ≤ rb) (hne : g ≠ rb) :
    (fillW (w3.setCell ⟨g, 7, none⟩ (.int .i64 a)) rb (.string s.text) (.int .i64 s.pos) (.int .i64 s.mark) (.slice Ak s.kills.length ck) (.slice Au s.undo.length cu) (.slice Ar s.redo.length cr) (.string s.keys) (.int .i64 a) (.int .i64 s.line) (.string s.saved)).heap[rb]? = some (.cells #[.string s.text, .int .i64 s.pos, .int .i64 s.mark, .slice Ak s.kills.length ck, .slice Au s.undo.length cu, .slice Ar s.redo.length cr, .string s.keys, .int .i64 a, .int .i64 s.line, .string s.saved] 27 (0, 0)) ∧
    EdR (fillW (w3.setCell ⟨g, 7, none⟩ (.int .i64 a)) rb (.string s.text) (.int .i64 s.pos) (.int .i64 s.mark) (.slice Ak s.kills.length ck) (.slice Au s.undo.length cu) (.slice Ar s.redo.length cr) (.string s.keys) (.int .i64 a) (.int .i64 s.line) (.string s.saved)) base { s with last := a } (.agg #[.string s.text, .int .i64 s.pos, .int .i64 s.mark, .slice Ak s.kills.length ck, .slice Au s.undo.length cu, .slice Ar s.redo.length cr, .string s.keys, .int .i64 a, .int .i64 s.line, .string s.saved]) ∧
    Below w.heap.size w (fillW (w3.setCell ⟨g, 7, none⟩ (.int .i64 a)) rb (.string s.text) (.int .i64 s.pos) (.int .i64 s.mark) (.slice Ak s.kills.length ck) (.slice Au s.undo.length cu) (.slice Ar s.redo.length cr) (.string s.keys) (.int .i64 a) (.int .i64 s.line) (.string s.saved)) := by
  have hbx' := blk_far hbx (p := ⟨g, 7, none⟩) (fun h => hne h.symm) (.int .i64 a)
  refine ⟨fillW_blk hbx', ⟨Ak, Au, Ar, ck, cu, cr, rfl, ?_, ?_, ?_⟩, fillW_below (below_set hb hg) hr⟩
  · exact fillW_R E_string (by decide) (Kd.R_set H3 H1 (by rw [E_string]; decide) 7 _) hbx'
  · exact fillW_R E_k23 (by decide) (Kd.R_set H4 H1 (by rw [E_k23]; decide) 7 _) hbx'
  · exact fillW_R E_k23 (by decide) (Kd.R_set H5 H1 (by rw [E_k23]; decide) 7 _) hbx'

set_option maxHeartbeats 16000000 in
set_option maxRecDepth 100000 in
theorem do_none (w : World) (s : St) (a : Int) (x : ByteArray) (v h : Value) (l : List ByteArray) (off : Int) (hv : EdC w s v) (hh : HiC w off l h) (ha : a < 0 ∨ 28 < a) :
    Calls Try.prog 16 #[v, .int .i64 a, .string x, h] w fun e w' => e = .returned v ∧ Below w.heap.size w w' := by
  obtain ⟨Ak, Au, Ar, ck, cu, cr, rfl, h1, h2, h3⟩ := hv
  obtain ⟨Al, cl, rfl, h4, h5⟩ := hh
  unfold edV
  have hu27 := Try.underlying27
  have hu38 := Try.underlying38
  have hu23 := Try.underlying23
  have ha2 : decide (a < 0) = true ∨ (decide (a < 0) = false ∧ decide (28 < a) = true) := by
    simp only [decide_eq_true_eq, decide_eq_false_iff_not]
    omega
  clear h1 h2 h3 h5 ha
  rcases ha2 with b1 | ⟨b1, b2⟩
  all_goals
    go_enter Try.func16, Try.ntmps16
    go_wp2
    refine bodyPost_ret (results_cell_row rfl _ _ (w.heap.size + 1 + 1) 27 #[.string s.text, .int .i64 s.pos, .int .i64 s.mark, .slice Ak s.kills.length ck, .slice Au s.undo.length cu, .slice Ar s.redo.length cr, .string s.keys, .int .i64 s.last, .int .i64 s.line, .string s.saved] (0, 0) _ rfl (blk_new3 w _ _ _ _) hu27 rfl (by first | rfl | decide)) rfl ?_
    exact ⟨rfl, below_alloc (below_alloc (below_alloc (Below.refl _ _) _) _) _⟩

set_option maxHeartbeats 16000000 in
set_option maxRecDepth 100000 in
theorem do_some (w : World) (s : St) (a : Int) (x : ByteArray) (v h : Value) (ok : OkS s) (hx : x.size ≤ 1000000) (hv : EdC w s v) (hh : HiC w s.off s.lines h) (ha : ¬ (a < 0 ∨ 28 < a)) :
    Calls Try.prog 16 #[v, .int .i64 a, .string x, h] w fun e w' => ∃ v', e = .returned v' ∧ EdR w' w.heap.size (doneS s a x) v' ∧ Below w.heap.size w w' := by
  obtain ⟨Ak, Au, Ar, ck, cu, cr, rfl, h1, h2, h3⟩ := hv
  obtain ⟨Al, cl, rfl, h4, h5⟩ := hh
  unfold edV
  have hu27 := Try.underlying27
  have hu38 := Try.underlying38
  have hu23 := Try.underlying23
  have b1 : decide (a < 0) = false := by simp only [decide_eq_false_iff_not]; omega
  have b2 : decide (28 < a) = false := by simp only [decide_eq_false_iff_not]; omega
  clear ha
  obtain ⟨w1, hw1⟩ : ∃ z, z = ((w.alloc (.cells #[.string s.text, .int .i64 s.pos, .int .i64 s.mark, .slice Ak s.kills.length ck, .slice Au s.undo.length cu, .slice Ar s.redo.length cr, .string s.keys, .int .i64 s.last, .int .i64 s.line, .string s.saved] 27)).alloc (.cells #[.int .i64 s.off, .slice Al s.lines.length cl] 38)).alloc (.cells #[.string ⟨#[]⟩, .int .i64 0, .int .i64 0, .slice none 0 0, .slice none 0 0, .slice none 0 0, .string ⟨#[]⟩, .int .i64 0, .int .i64 0, .string ⟨#[]⟩] 27) := ⟨_, rfl⟩
  have HW1 := Aside0.mk hw1
  have hb1 : Below w.heap.size w w1 := by rw [hw1]; exact below_alloc (below_alloc (below_alloc (Below.refl _ _) _) _) _
  have HB1 := Aside0.mk hb1
  have K1 := Aside0.mk (Kd.C_below h1 hb1)
  have K2 := Aside0.mk (Kd.C_below h2 hb1)
  have K3 := Aside0.mk (Kd.C_below h3 hb1)
  have K4 := Aside0.mk (Kd.C_below h5 hb1)
  have HK := Aside0.mk ok
  obtain ⟨rb, hrb⟩ : ∃ z, z = w.heap.size + 1 + 1 := ⟨_, rfl⟩
  have HRB := Aside0.mk hrb
  have hsz : w1.heap.size = rb + 1 := by rw [hw1, hrb]; simp
  have HBX := Aside0.mk (show w1.heap[rb]? = some (.cells #[.string ⟨#[]⟩, .int .i64 0, .int .i64 0, .slice none 0 0, .slice none 0 0, .slice none 0 0, .string ⟨#[]⟩, .int .i64 0, .int .i64 0, .string ⟨#[]⟩] 27 (0, 0)) from by rw [hw1, hrb]; have h := blk_new ((w.alloc (.cells #[.string s.text, .int .i64 s.pos, .int .i64 s.mark, .slice Ak s.kills.length ck, .slice Au s.undo.length cu, .slice Ar s.redo.length cr, .string s.keys, .int .i64 s.last, .int .i64 s.line, .string s.saved] 27)).alloc (.cells #[.int .i64 s.off, .slice Al s.lines.length cl] 38)) (.cells #[.string ⟨#[]⟩, .int .i64 0, .int .i64 0, .slice none 0 0, .slice none 0 0, .slice none 0 0, .string ⟨#[]⟩, .int .i64 0, .int .i64 0, .string ⟨#[]⟩] 27); simpa using h)
  have n0 : s.pos = ((s.pos.toNat : Nat) : Int) := by have := ok.low; omega
  have n1 : s.pos.toNat ≤ s.text.size := by have := ok.high; omega
  have HN0 := Aside0.mk n0
  have HSZ := Aside0.mk hsz
  clear hw1 hb1 h1 h2 h3 h5 ok hrb n0 hsz
  by_cases hm : moves a = true
  · rw [show doneS s a x = { moveS s a with last := a } from by unfold doneS; rw [if_pos hm]]
    have HM := Aside0.mk hm
    clear hm
    go_enter Try.func16, Try.ntmps16
    go_wp2_with (fail)
    rw [← HW1.out]
    refine (begin_calls w1 s Ak Au Ar Al ck cu cr cl K1.out K2.out K3.out K4.out h4 HK.out.kills HK.out.undo HK.out.redo).mono ?_
    rintro e w2 ⟨g, rfl, hI, hB⟩
    obtain ⟨vk, vu, vr, vl, Hb, hg, HR⟩ := id hI
    have HI2 := Aside0.mk hI
    have HB2 := Aside0.mk hB
    have Hb2 := Aside0.mk Hb
    have HR2 := Aside0.mk HR
    clear hI hB Hb HR
    go_wp2_with (fail)
    go_at_call 28
    refine (move_calls w1 w2 g s vk vu vr vl a s.pos.toNat HN0.out Hb2.out n1 HK.out.text hg HB2.out).mono ?_
    rintro e w3 ⟨rfl, h5, h6, h7⟩
    rw [HM.out]
    have hI3 : IsW w1 w3 g (moveS s a) := IsW_keep Hb2.out HR2.out h5 hg h7 (moveS_keep s a)
    have hI3' := hI3.R
    obtain ⟨Ak, Au, Ar, ck, cu, cr, vl, H1, H2, H3, H4, H5⟩ := hI3'
    have hbx := blk_below HBX.out (w1 := w3) h6
    rw [HRB.out] at hbx
    have hne1 : ¬ w.heap.size + 1 + 1 = g := by have h1 := HRB.out; have h2 := HSZ.out; omega
    have hne2 : ¬ g = w.heap.size + 1 + 1 := fun h => hne1 h.symm
    obtain ⟨d0, d1, d2, d3, d4, d5, d6, d7, d8, d9, d10, d11⟩ := H1.cells
    have e7 := H1.frozen.2.2.2.2.2.2.2.1
    have r0 := (blk_cell hbx 0).trans rfl
    have r1 := (blk_cell hbx 1).trans rfl
    have r2 := (blk_cell hbx 2).trans rfl
    have r3 := (blk_cell hbx 3).trans rfl
    have r4 := (blk_cell hbx 4).trans rfl
    have r5 := (blk_cell hbx 5).trans rfl
    have r6 := (blk_cell hbx 6).trans rfl
    have r7 := (blk_cell hbx 7).trans rfl
    have r8 := (blk_cell hbx 8).trans rfl
    have r9 := (blk_cell hbx 9).trans rfl
    have q := blk_frozen hbx
    have HH1 := Aside0.mk H1
    have HH3 := Aside0.mk H3
    have HH4 := Aside0.mk H4
    have HH5 := Aside0.mk H5
    have HH6 := Aside0.mk h6
    have HBX3 := Aside0.mk hbx
    clear H1 H3 H4 H5 h5 h6 h7 hI3 hbx
    go_wp2_with (fail)
    obtain ⟨z1, z2, z3⟩ := fill_end (w := w) a HH1.out HH3.out HH4.out HH5.out HBX3.out (below_step HB1.out HH6.out) (by have := HB1.out.size; omega) (by omega) hne2
    refine bodyPost_ret (results_cell_row rfl _ _ (w.heap.size + 1 + 1) 27 _ (0, 0) _ rfl z1 hu27 rfl (by first | rfl | decide)) rfl ?_
    exact ⟨_, rfl, z2.lower HB1.out.size, z3⟩
  · have hm2 : moves a = false := by simpa using hm
    rw [show doneS s a x = { changeS s a x with last := a } from by unfold doneS; rw [if_neg hm]]
    have HM := Aside0.mk hm2
    have HMS := Aside0.mk (moveS_not s a hm2)
    clear hm hm2
    go_enter Try.func16, Try.ntmps16
    go_wp2_with (fail)
    rw [← HW1.out]
    refine (begin_calls w1 s Ak Au Ar Al ck cu cr cl K1.out K2.out K3.out K4.out h4 HK.out.kills HK.out.undo HK.out.redo).mono ?_
    rintro e w2 ⟨g, rfl, hI, hB⟩
    obtain ⟨vk, vu, vr, vl, Hb, hg, HR⟩ := id hI
    have HI2 := Aside0.mk hI
    have HB2 := Aside0.mk hB
    have Hb2 := Aside0.mk Hb
    have HR2 := Aside0.mk HR
    clear hI hB Hb HR
    go_wp2_with (fail)
    go_at_call 28
    refine (move_calls w1 w2 g s vk vu vr vl a s.pos.toNat HN0.out Hb2.out n1 HK.out.text hg HB2.out).mono ?_
    rintro e w25 ⟨rfl, h5, h6, h7⟩
    rw [HM.out]
    have HI25 : Aside0 (IsW w1 w25 g s) := ⟨by have h := IsW_keep Hb2.out HR2.out h5 hg h7 (moveS_keep s a); rw [HMS.out] at h; exact h⟩
    have HB25 := Aside0.mk h6
    clear h5 h6 h7
    go_wp2_with (fail)
    go_at_call 29
    refine (change_calls w1 w25 g s a x HK.out hx HI25.out HB25.out).mono ?_
    rintro e w3 ⟨rfl, hI3, h6⟩
    have hI3' := hI3.R
    obtain ⟨Ak, Au, Ar, ck, cu, cr, vl, H1, H2, H3, H4, H5⟩ := hI3'
    have hbx := blk_below HBX.out (w1 := w3) h6
    rw [HRB.out] at hbx
    have hne1 : ¬ w.heap.size + 1 + 1 = g := by have h1 := HRB.out; have h2 := HSZ.out; omega
    have hne2 : ¬ g = w.heap.size + 1 + 1 := fun h => hne1 h.symm
    obtain ⟨d0, d1, d2, d3, d4, d5, d6, d7, d8, d9, d10, d11⟩ := H1.cells
    have e7 := H1.frozen.2.2.2.2.2.2.2.1
    have r0 := (blk_cell hbx 0).trans rfl
    have r1 := (blk_cell hbx 1).trans rfl
    have r2 := (blk_cell hbx 2).trans rfl
    have r3 := (blk_cell hbx 3).trans rfl
    have r4 := (blk_cell hbx 4).trans rfl
    have r5 := (blk_cell hbx 5).trans rfl
    have r6 := (blk_cell hbx 6).trans rfl
    have r7 := (blk_cell hbx 7).trans rfl
    have r8 := (blk_cell hbx 8).trans rfl
    have r9 := (blk_cell hbx 9).trans rfl
    have q := blk_frozen hbx
    have HH1 := Aside0.mk H1
    have HH3 := Aside0.mk H3
    have HH4 := Aside0.mk H4
    have HH5 := Aside0.mk H5
    have HH6 := Aside0.mk h6
    have HBX3 := Aside0.mk hbx
    clear H1 H3 H4 H5 h6 hI3 hbx
    go_wp2_with (fail)
    obtain ⟨z1, z2, z3⟩ := fill_end (w := w) a HH1.out HH3.out HH4.out HH5.out HBX3.out (below_step HB1.out HH6.out) (by have := HB1.out.size; omega) (by omega) hne2
    refine bodyPost_ret (results_cell_row rfl _ _ (w.heap.size + 1 + 1) 27 _ (0, 0) _ rfl z1 hu27 rfl (by first | rfl | decide)) rfl ?_
    exact ⟨_, rfl, z2.lower HB1.out.size, z3⟩

theorem do_callsR (w : World) (base : Nat) (s : St) (a : Int) (x : ByteArray) (v h : Value) (ok : OkS s) (hx : x.size ≤ 1000000) (hv : EdR w base s v) (hbs : base ≤ w.heap.size) (hh : HiC w s.off s.lines h) :
    Calls Try.prog 16 #[v, .int .i64 a, .string x, h] w fun e w' => ∃ v', e = .returned v' ∧ EdR w' base (doS s a x) v' ∧ Below w.heap.size w w' := by
  unfold doS
  by_cases ha : a < 0 ∨ 28 < a
  · rw [if_pos ha]
    refine (do_none w s a x v h s.lines s.off hv.ed hh ha).mono ?_
    rintro e w' ⟨rfl, hb⟩
    exact ⟨v, rfl, hv.below hb, hb⟩
  · rw [if_neg ha]
    refine (do_some w s a x v h ok hx hv.ed hh ha).mono ?_
    rintro e w' ⟨v', rfl, hv', hb⟩
    exact ⟨v', rfl, hv'.lower hbs, hb⟩
end Go.Proofs.Ytlbbjdggebgabaa.P
end
