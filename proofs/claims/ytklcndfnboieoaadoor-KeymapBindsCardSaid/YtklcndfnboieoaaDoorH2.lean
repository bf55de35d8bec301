/- The contract of keymap.Parse, for every string, in any world that holds the table 'named'. -/
import Derived.Test.YtklcndfnboieoaaDoorH1
namespace Go.Proofs.YtklcndfnboieoaaDoor.H
open Go.RowKit Go.Proofs.YtklcndfnboieoaaDoorW.PrintWords Go.Proofs.YtklcndfnboieoaaDoorW.PrintLast Go.Proofs.YtklcndfnboieoaaDoorW.PrintMore Go.Proofs.YtklcndfnboieoaaDoor.PKeymapParses

theorem atb_below {T e : TypeId} {B b : Nat} {p : Value} {bs : List Value} {W W' : World} (h : Lib.BuilderAtF T e B b p bs W) (hb : Below W.heap.size W W') : Lib.BuilderAtF T e B b p bs W' := by
  have hlt := h.lt
  obtain ⟨hB, v, hk, hown, hne⟩ := h
  exact ⟨hB, v, (hb.block b hlt).trans hk, hown.kept (row := none) (grown_of_below hb none) (by cases hv : v.ownBlock <;> simp), hne⟩
theorem isb_below {T e : TypeId} {B b : Nat} {bs : List Value} {W W' : World} (h : Lib.IsBuilderF T e B b bs W) (hb : Below W.heap.size W W') : Lib.IsBuilderF T e B b bs W' :=
  h.elim (fun x => .inl (atb_below x hb)) (fun x => .inr (atb_below x hb))
theorem isb_new (w : World) : Lib.IsBuilderF 49 5 w.heap.size w.heap.size [] (w.alloc (.cells #[.pointer none, .slice none 0 0] 49)) :=
  .inl ⟨Nat.le_refl _, .slice none 0 0, heap_alloc_new w _, World.ownsRowF_nil _ _ _ _, by simp [Value.ownBlock]⟩
def b8 (c : Int) : UInt8 := UInt8.ofNat c.toNat
theorem cells_push (l : List UInt8) (c : Int) (h0 : 0 ≤ c) (h1 : c ≤ 255) : Lib.byteCells l ++ [.int .u8 c] = Lib.byteCells (l ++ [b8 c]) := by
  have : ((b8 c).toNat : Int) = c := by
    unfold b8
    rw [UInt8.toNat_ofNat']
    omega
  simp [Lib.byteCells, this]

/-- The loop of keymap.Parse: what is left of the notation, the keys so far. -/
def keymap_Parse.l0 : Nat → ByteArray → List UInt8 → Option (ByteArray × Int)
  | 0, _, _ => none
  | k + 1, s, l =>
    if s.toList = [] then (if (l.length : Int) > 16 then some (⟨#[]⟩, 3) else some (⟨l.toArray⟩, 0))
    else if l.length + 1 ≤ 140737488355328 then
      if bt s 0 = 92 then (keymap_form.f k (s.extract 1 s.size)).bind fun t =>
        if t.2.2 = 0 then (if 0 ≤ t.1 ∧ t.1 ≤ 255 ∧ 0 ≤ t.2.1 ∧ 1 + t.2.1 ≤ s.size then keymap_Parse.l0 k (s.extract (1 + t.2.1).toNat s.size) (l ++ [b8 t.1]) else none)
        else some (⟨#[]⟩, t.2.2)
      else keymap_Parse.l0 k (s.extract 1 s.size) (l ++ [b8 (bt s 0)])
    else none
def keymap_Parse.f (k : Nat) (s : ByteArray) : Option (ByteArray × Int) := if s.size ≤ 140737488351232 then keymap_Parse.l0 k s [] else none

set_option maxHeartbeats 1000000 in
set_option maxRecDepth 100000 in
theorem keymap_Parse.calls (k : Nat) (s : ByteArray) (r1 : ByteArray) (r2 : Int) (w : World) (hG : Laid w) (h : keymap_Parse.f k s = some (r1, r2)) :
    Calls Tryd.prog 10 #[.string s] w fun e w' => e = .returned (.tuple #[.string r1, .int .i64 r2]) ∧ Below w.heap.size w w' := by
  have HG := Aside0.mk hG
  have HI := Aside0.mk (isb_new w)
  have HB := Aside0.mk (below_alloc (Below.refl w.heap.size w) (.cells #[.pointer none, .slice none 0 0] 49))
  unfold keymap_Parse.f at h
  by_cases hz : s.size ≤ 140737488351232
  · rw [if_pos hz] at h
    have H' := Aside0.mk h
    have hu49 := Tryd.underlying49
    clear h hG
    go_enter Tryd.func10, Tryd.ntmps10
    go_wp2
    go_loopg [0] k (fun kq v0 wr => ∃ (t : ByteArray) (l : List UInt8), v0 = .string t ∧ Aside0 (keymap_Parse.l0 kq t l = some (r1, r2)) ∧ Aside0 (kq ≤ k) ∧ Aside0 (t.size ≤ 140737488351232) ∧ Aside0 (Lib.IsBuilderF 49 5 w.heap.size w.heap.size (Lib.byteCells l) wr) ∧ Aside0 (Below w.heap.size w wr))
    case atStart => exact ⟨s, [], rfl, H', ⟨Nat.le_refl _⟩, ⟨hz⟩, HI, HB⟩
    case round =>
      clear H' HI HB hz
      obtain ⟨t, l, rfl, HA, HK1, HZ, HI, HB⟩ := hrel
      cases gk with
      | zero => exact absurd HA.out (by simp [keymap_Parse.l0])
      | succ k1 =>
        have H := HA.out
        clear HA
        simp only [keymap_Parse.l0] at H
        by_cases c2 : t.toList = []
        · rw [if_pos c2] at H
          have c2b1 : t.toList.isEmpty = true := by rw [c2]; rfl
          clear c2
          by_cases c3 : (l.length : Int) > 16
          · rw [if_pos c3] at H
            have c3b : decide (16 < (l.length : Int)) = true := decide_eq_true c3
            have c3c : decide (16 < l.length) = true := decide_eq_true (by omega)
            simp only [Option.some.injEq, Prod.mk.injEq] at H
            obtain ⟨rfl, rfl⟩ := H
            clear c3
            go_wp2_with (first | (go_at_call 26; refine (Tryd.Builder_Len_f _ _ _ _ HI.out).mono ?_; rintro e w2 ⟨rfl, rfl⟩; simp only [Lib.byteCells_length]))
            go_ret2
            exact ⟨rfl, HB.out⟩
          · rw [if_neg c3] at H
            have c3b : decide (16 < (l.length : Int)) = false := decide_eq_false c3
            have c3c : decide (16 < l.length) = false := decide_eq_false (by omega)
            simp only [Option.some.injEq, Prod.mk.injEq] at H
            obtain ⟨rfl, rfl⟩ := H
            clear c3
            go_wp2_with (first | (go_at_call 26; go_must (refine (Tryd.Builder_Len_f _ _ _ _ HI.out).mono ?_; rintro e w2 ⟨rfl, rfl⟩; simp only [Lib.byteCells_length])) | (go_at_call 27; refine (Tryd.Builder_String_any_k _ _ _ _ HI.out HB.out.size).mono ?_; rintro e w' ⟨rfl, _, hb, _⟩; have HB2 := Aside0.mk (HB.out.trans hb); clear hb))
            go_ret2
            exact ⟨rfl, HB2.out⟩
        · rw [if_neg c2] at H
          have hp := size_pos c2
          have c2b1 : t.toList.isEmpty = false := by rw [List.isEmpty_eq_false_iff]; exact c2
          have q4 : (0 < t.size) = True := eq_true hp
          have hx4 : ∀ h : 0 < t.size, ((t[0]'h).toNat : Int) = bt t 0 := bt_at t 0
          have qi4 : (0 < (t.size : Int)) = True := eq_true (by omega)
          have q5 : 1 ≤ t.size := hp
          have q6 : 1 ≤ (t.size : Int) := by omega
          have hrng := bt_range t 0
          clear c2
          by_cases c3 : l.length + 1 ≤ 140737488355328
          · rw [if_pos c3] at H
            have hlen : (Lib.byteCells l).length + 1 ≤ 140737488355328 := by rw [Lib.byteCells_length]; exact c3
            have HL := Aside0.mk hlen
            clear c3 hlen
            by_cases c4 : bt t 0 = 92
            · rw [if_pos c4] at H
              have c4b : (bt t 0 != 92) = false := bne_eq_false_iff_eq.mpr c4
              obtain ⟨⟨t1, t2, t3⟩, hA0, h3⟩ := Option.bind_eq_some_iff.mp H
              have hA := Aside0.mk hA0
              clear H hA0 c4
              simp only at h3
              by_cases c5 : t3 = 0
              · subst c5
                rw [if_pos rfl] at h3
                by_cases c6 : 0 ≤ t1 ∧ t1 ≤ 255 ∧ 0 ≤ t2 ∧ 1 + t2 ≤ t.size
                · rw [if_pos c6] at h3
                  obtain ⟨d1, d2, d3, d4⟩ := c6
                  have H' := Aside0.mk h3
                  have hts : (t.size : Int) ≤ 140737488351232 := by have := HZ.out; omega
                  clear h3
                  go_wp2_with (first | (go_at_call 25; (with_reducible refine (keymap_form.calls k1 _ t1 t2 0 _ (HG.out.step HB.out) hA.out).mono ?_); rintro e w1 ⟨rfl, hb⟩; have HI1 := Aside0.mk (isb_below HI.out hb); have HB1 := Aside0.mk (below_step HB.out hb); clear hb) | (go_at_call 24; (with_reducible refine (Tryd.Builder_WriteByte_k _ _ _ _ _ HI1.out HL.out HB1.out.size).mono ?_); rintro e w2 ⟨rfl, hI2, hb, _⟩; have HI2 := Aside0.mk (show Lib.IsBuilderF 49 5 w.heap.size w.heap.size _ _ from .inr hI2); have HB2 := Aside0.mk (HB1.out.trans hb); clear hb hI2))
                  go_roundg k1
                  case measure => omega
                  case rel => exact ⟨_, _, rfl, H', ⟨by have := HK1.out; omega⟩, ⟨by have := HZ.out; rw [ByteArray.size_extract]; omega⟩, ⟨by have := HI2.out; rwa [cells_push l t1 d1 d2] at this⟩, HB2⟩
                · rw [if_neg c6] at h3
                  exact absurd h3 (by simp)
              · rw [if_neg c5] at h3
                simp only [Option.some.injEq, Prod.mk.injEq] at h3
                obtain ⟨rfl, rfl⟩ := h3
                have c5b : (t3 != 0) = true := bne_iff_ne.mpr c5
                clear c5
                go_wp2_with (first | (go_at_call 25; (with_reducible refine (keymap_form.calls k1 _ t1 t2 t3 _ (HG.out.step HB.out) hA.out).mono ?_); rintro e w1 ⟨rfl, hb⟩; have HB1 := Aside0.mk (below_step HB.out hb); clear hb))
                go_ret2
                exact ⟨rfl, HB1.out⟩
            · rw [if_neg c4] at H
              have c4b : (bt t 0 != 92) = true := bne_iff_ne.mpr c4
              have H' := Aside0.mk H
              clear H c4
              go_wp2_with (first | (go_at_call 24; (with_reducible refine (Tryd.Builder_WriteByte_k _ _ _ _ _ HI.out HL.out HB.out.size).mono ?_); rintro e w2 ⟨rfl, hI2, hb, _⟩; have HI2 := Aside0.mk (show Lib.IsBuilderF 49 5 w.heap.size w.heap.size _ _ from .inr hI2); have HB2 := Aside0.mk (HB.out.trans hb); clear hb hI2))
              go_roundg k1
              case measure => omega
              case rel => exact ⟨_, _, rfl, H', ⟨by have := HK1.out; omega⟩, ⟨by have := HZ.out; rw [ByteArray.size_extract]; omega⟩, ⟨by have := HI2.out; rwa [cells_push l _ hrng.1 hrng.2] at this⟩, HB2⟩
          · rw [if_neg c3] at H
            exact absurd H (by simp)
  · rw [if_neg hz] at h
    exact absurd h (by simp)

/-- More rounds tell the same. -/
theorem keymap_form.mono : ∀ s k, LeO (keymap_form.f k s) (keymap_form.f (k + 1) s) := by
  intro s k
  unfold keymap_form.f formRest
  repeat' first
      | exact LeO.refl _
      | refine LeO.ite ?_ ?_
      | refine LeO.bind (keymap_coded.mono _ _) (fun _ => LeO.refl _)
theorem keymap_Parse.mono_l : ∀ k, ∀ s l, LeO (keymap_Parse.l0 k s l) (keymap_Parse.l0 (k + 1) s l)
  | 0 => fun _ _ r h => by simp [keymap_Parse.l0] at h
  | k + 1 => by
    have ih := keymap_Parse.mono_l k
    intro s l
    rw [keymap_Parse.l0, keymap_Parse.l0]
    repeat' first
      | (with_reducible exact ih _ _)
      | (with_reducible exact keymap_form.mono _ _)
      | (with_reducible exact LeO.refl _)
      | (with_reducible refine LeO.ite ?_ ?_)
      | (with_reducible refine LeO.bind ?_ (fun _ => ?_))
      | (show LeO (ite _ _ _) (ite _ _ _); with_reducible refine LeO.ite ?_ ?_)
theorem keymap_Parse.mono : ∀ s k, LeO (keymap_Parse.f k s) (keymap_Parse.f (k + 1) s) := by
  intro s k
  unfold keymap_Parse.f
  exact LeO.ite (keymap_Parse.mono_l k _ _) (LeO.refl _)

def keymap_show.f (c : Int) : Option ByteArray := if 0 ≤ c ∧ c ≤ 255 then some (showB c) else none
theorem keymap_show.calls (c : Int) (r : ByteArray) (w : World) (hG : Laid w) (h : keymap_show.f c = some r) :
    Calls Tryd.prog 29 #[.int .u8 c] w fun e w' => e = .returned (.string r) ∧ Below w.heap.size w w' := by
  unfold keymap_show.f at h
  by_cases hc : 0 ≤ c ∧ c ≤ 255
  · rw [if_pos hc] at h
    obtain rfl := Option.some.inj h
    exact show_calls c w hc.1 hc.2 hG
  · rw [if_neg hc] at h
    exact absurd h (by simp)
end Go.Proofs.YtklcndfnboieoaaDoor.H
