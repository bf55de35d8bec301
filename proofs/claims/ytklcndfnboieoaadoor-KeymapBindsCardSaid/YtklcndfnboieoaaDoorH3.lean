/- The contract of the reference's show, for every byte. -/
import Derived.Test.YtklcndfnboieoaaDoorH2
namespace Go.Proofs.YtklcndfnboieoaaDoor.H
open Go.RowKit Go.Proofs.YtklcndfnboieoaaDoorW.PrintWords Go.Proofs.YtklcndfnboieoaaDoorW.PrintLast Go.Proofs.YtklcndfnboieoaaDoorW.PrintMore

/-- What the reference's show gives. -/
def showR (c : Int) : ByteArray :=
  if c = 9 then ⟨#[92, 116]⟩ else if c = 10 then ⟨#[92, 110]⟩ else if c = 27 then ⟨#[92, 101]⟩ else if c = 127 then ⟨#[92, 100]⟩ else if c = 92 then ⟨#[92, 92]⟩
  else if 1 ≤ c ∧ c ≤ 26 then ⟨#[92, 67, 45]⟩ ++ strOfNums [c - 1 + 97] else if 32 ≤ c ∧ c ≤ 126 then strOfNums [c]
  else (⟨#[92, 120]⟩ ++ digitsStr.extract (c / 16).toNat (c / 16 + 1).toNat) ++ digitsStr.extract (c % 16).toNat (c % 16 + 1).toNat

theorem slc (w : World) (q : Int) (h0 : 0 ≤ q) (h1 : q < 16) : (Instr.slice 9 (.string ⟨#[48, 49, 50, 51, 52, 53, 54, 55, 56, 57, 97, 98, 99, 100, 101, 102]⟩) (some (.int .u8 q)) (some (.int .u8 (q + 1))) none).run Tryd.prog w = .ok (.string (digitsStr.extract q.toNat (q + 1).toNat)) w := by
  have hs : digitsStr.size = 16 := rfl
  exact run_slice_string w 9 digitsStr .u8 .u8 q (q + 1) Tryd.underlying9 h0 (by omega) (by rw [hs]; omega)
theorem slz (q : Int) (h0 : 0 ≤ q) (h1 : q < 16) : (digitsStr.extract q.toNat (q + 1).toNat).size = 1 := by
  have hs : digitsStr.size = 16 := rfl
  rw [ByteArray.size_extract]
  omega

set_option maxHeartbeats 1000000 in
set_option maxRecDepth 100000 in
theorem showR_calls (c : Int) (w : World) (h0 : 0 ≤ c) (h1 : c ≤ 255) :
    Calls Tryd.prog 30 #[.int .u8 c] w fun e w' => e = .returned (.string (showR c)) ∧ Below w.heap.size w w' := by
  have HB := Aside0.mk (Below.refl w.heap.size w)
  have cv1 := conv1
  by_cases n0 : c = 9
  · subst n0
    go_enter Tryd.func30, Tryd.ntmps30
    go_wp2
    go_ret
    exact ⟨rfl, HB.out⟩
  by_cases n1 : c = 10
  · subst n1
    go_enter Tryd.func30, Tryd.ntmps30
    go_wp2
    go_ret
    exact ⟨rfl, HB.out⟩
  by_cases n2 : c = 27
  · subst n2
    go_enter Tryd.func30, Tryd.ntmps30
    go_wp2
    go_ret
    exact ⟨rfl, HB.out⟩
  by_cases n3 : c = 127
  · subst n3
    go_enter Tryd.func30, Tryd.ntmps30
    go_wp2
    go_ret
    exact ⟨rfl, HB.out⟩
  by_cases n4 : c = 92
  · subst n4
    go_enter Tryd.func30, Tryd.ntmps30
    go_wp2
    go_ret
    exact ⟨rfl, HB.out⟩
  have hs := Lib.hid (show showR c = if 1 ≤ c ∧ c ≤ 26 then ⟨#[92, 67, 45]⟩ ++ strOfNums [c - 1 + 97] else if 32 ≤ c ∧ c ≤ 126 then strOfNums [c] else (⟨#[92, 120]⟩ ++ digitsStr.extract (c / 16).toNat (c / 16 + 1).toNat) ++ digitsStr.extract (c % 16).toNat (c % 16 + 1).toNat by simp [showR, n0, n1, n2, n3, n4])
  have b0 : (c == 9) = false := beq_eq_false_iff_ne.mpr n0
  have b1 : (c == 10) = false := beq_eq_false_iff_ne.mpr n1
  have b2 : (c == 27) = false := beq_eq_false_iff_ne.mpr n2
  have b3 : (c == 127) = false := beq_eq_false_iff_ne.mpr n3
  have b4 : (c == 92) = false := beq_eq_false_iff_ne.mpr n4
  clear n0 n1 n2 n3 n4
  by_cases g1 : 1 ≤ c ∧ c ≤ 26
  · have hs2 := Lib.hid (hs.out.trans (if_pos g1))
    obtain ⟨g1, g2⟩ := g1
    clear hs
    go_enter Tryd.func30, Tryd.ntmps30
    go_wp2
    go_ret
    exact ⟨by rw [hs2.out]; rfl, by repeat (first | (with_reducible first | exact HB.out | apply below_alloc | apply pw_below_drewN | apply below_drew1) | exact HB.out)⟩
  · have hs2 := Lib.hid (hs.out.trans (if_neg g1))
    clear hs
    by_cases g2 : 32 ≤ c ∧ c ≤ 126
    · have hs3 := Lib.hid (hs2.out.trans (if_pos g2))
      obtain ⟨g3, g4⟩ := g2
      clear hs2 g1
      have g5 : decide (c ≤ 26) = false := by simp; omega
      go_enter Tryd.func30, Tryd.ntmps30
      go_wp2
      go_ret
      exact ⟨by rw [hs3.out]; rfl, by repeat (first | (with_reducible first | exact HB.out | apply below_alloc | apply pw_below_drewN | apply below_drew1) | exact HB.out)⟩
    · have hs3 := Lib.hid (hs2.out.trans (if_neg g2))
      clear hs2
      have q0 : 0 ≤ c / 16 := by omega
      have q1 : c / 16 < 16 := by omega
      have r0 : 0 ≤ c % 16 := by omega
      have r1 : c % 16 < 16 := by omega
      have sz1 := slz _ q0 q1
      have sz2 := slz _ r0 r1
      have sl0 := slc
      rcases (by omega : c < 1 ∨ 26 < c ∧ c < 32 ∨ 126 < c) with g3 | ⟨g3, g4⟩ | g3
      · clear g1 g2
        have g5 : decide (1 ≤ c) = false := by simp; omega
        have g6 : decide (32 ≤ c) = false := by simp; omega
        go_enter Tryd.func30, Tryd.ntmps30
        go_wp2
        go_region
        go_wp2
        go_ret
        exact ⟨by rw [hs3.out]; rfl, by repeat (first | (with_reducible first | exact HB.out | apply below_alloc | apply pw_below_drewN | apply below_drew1) | exact HB.out)⟩
      · clear g1 g2
        have g5 : decide (c ≤ 26) = false := by simp; omega
        have g6 : decide (32 ≤ c) = false := by simp; omega
        go_enter Tryd.func30, Tryd.ntmps30
        go_wp2
        go_region
        go_wp2
        go_ret
        exact ⟨by rw [hs3.out]; rfl, by repeat (first | (with_reducible first | exact HB.out | apply below_alloc | apply pw_below_drewN | apply below_drew1) | exact HB.out)⟩
      · clear g1 g2
        have g5 : decide (c ≤ 26) = false := by simp; omega
        have g6 : decide (c ≤ 126) = false := by simp; omega
        go_enter Tryd.func30, Tryd.ntmps30
        go_wp2
        go_region
        go_wp2
        go_ret
        exact ⟨by rw [hs3.out]; rfl, by repeat (first | (with_reducible first | exact HB.out | apply below_alloc | apply pw_below_drewN | apply below_drew1) | exact HB.out)⟩

def jobshellref45_show.f (c : Int) : Option ByteArray := if 0 ≤ c ∧ c ≤ 255 then some (showR c) else none
theorem jobshellref45_show.calls (c : Int) (r : ByteArray) (w : World) (h : jobshellref45_show.f c = some r) :
    Calls Tryd.prog 30 #[.int .u8 c] w fun e w' => e = .returned (.string r) ∧ Below w.heap.size w w' := by
  unfold jobshellref45_show.f at h
  by_cases hc : 0 ≤ c ∧ c ≤ 255
  · rw [if_pos hc] at h
    obtain rfl := Option.some.inj h
    exact showR_calls c w hc.1 hc.2
  · rw [if_neg hc] at h
    exact absurd h (by simp)
end Go.Proofs.YtklcndfnboieoaaDoor.H
