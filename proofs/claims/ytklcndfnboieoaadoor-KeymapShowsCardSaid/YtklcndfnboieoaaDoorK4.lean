/- KeymapShows, plain: what Show writes is what the reference's Show writes, has bytes from 32 to 126 only, and is read back by Parse. -/
import Derived.Test.YtklcndfnboieoaaDoorK3
import Derived.Test.YtklcndfnboieoaaDoorH3
import Derived.Test.YtklcndfnboieoaaDoorPx7
import Derived.Test.YtklcndfnboieoaaDoorPx2
namespace Go.Proofs.YtklcndfnboieoaaDoor.K
set_option linter.unusedVariables false
set_option linter.unusedSimpArgs false
open Go Go.RowKit Go.Proofs.YtklcndfnboieoaaDoorW.PrintWords Go.Proofs.YtklcndfnboieoaaDoor.P
open Go.Proofs.YtklcndfnboieoaaDoor.H (keymap_Parse.f keymap_Parse.l0 keymap_show.f jobshellref45_show.f showB showR digitsStr)

/-- What a key is written as. -/
def sh (c : Int) : List UInt8 := (showB c).data.toList
theorem sh_arr (c : Int) : showB c = ⟨(sh c).toArray⟩ := by
  apply ByteArray.ext
  simp [sh]
theorem each_byte {p : Int → Bool} (h : ∀ n : Fin 256, p ((n.val : Nat) : Int) = true) (c : Int) (h0 : 0 ≤ c) (h1 : c ≤ 255) : p c = true := by
  have := h ⟨c.toNat, by omega⟩
  simpa [show ((c.toNat : Nat) : Int) = c by omega] using this
theorem sh_same (c : Int) (h0 : 0 ≤ c) (h1 : c ≤ 255) : showR c = showB c := by
  have := each_byte (p := fun c => decide ((showR c).data.toList = (showB c).data.toList)) (by decide +kernel) c h0 h1
  have h2 := of_decide_eq_true this
  exact ByteArray.ext (Array.ext' h2)
theorem sh_short (c : Int) (h0 : 0 ≤ c) (h1 : c ≤ 255) : 1 ≤ (sh c).length ∧ (sh c).length ≤ 4 := by
  have := each_byte (p := fun c => decide (1 ≤ (showB c).data.toList.length ∧ (showB c).data.toList.length ≤ 4)) (by decide +kernel) c h0 h1
  exact of_decide_eq_true this
theorem sh_plain (c : Int) (h0 : 0 ≤ c) (h1 : c ≤ 255) : ∀ b ∈ sh c, 32 ≤ b.toNat ∧ b.toNat ≤ 126 := by
  have := each_byte (p := fun c => (showB c).data.toList.all fun b => decide (32 ≤ b.toNat ∧ b.toNat ≤ 126)) (by decide +kernel) c h0 h1
  intro b hb
  exact of_decide_eq_true (List.all_eq_true.1 this b hb)

/-- A byte of a string that is told as a list. -/
theorem bt_list (l : List UInt8) (i : Nat) (h : i < l.length) : bt ⟨l.toArray⟩ (i : Int) = ((l[i]).toNat : Int) := by
  unfold bt
  have h1 : (i : Int).toNat < (⟨l.toArray⟩ : ByteArray).size := by rw [arr_size]; simpa using h
  rw [dif_pos h1]
  simp only [Int.toNat_natCast]
  show (((l.toArray)[i]'_).toNat : Int) = _
  simp
theorem bt_mid (pre mid post : List UInt8) (i : Nat) (h : i < mid.length) : bt ⟨(pre ++ mid ++ post).toArray⟩ ((pre.length + i : Nat) : Int) = ((mid[i]).toNat : Int) := by
  rw [bt_list _ _ (by simp; omega)]
  congr 2
  rw [List.getElem_append_left (by simp; omega), List.getElem_append_right (by omega)]
  congr 1
  omega
/-- What one step reads, by the bytes that it looks at. -/
theorem stp_of (s : ByteArray) (a : Nat) (b : List UInt8) (ha : a + b.length ≤ s.size) (hb : ∀ i (h : i < b.length), bt s ((a + i : Nat) : Int) = ((b[i]).toNat : Int)) (c : Int)
    (hc : (b = [b8 c] ∧ 32 ≤ c ∧ c ≤ 126 ∧ c ≠ 92) ∨ (∃ l, b = [92, l] ∧ ((c = 27 ∧ l = 101) ∨ (c = 127 ∧ l = 100) ∨ (c = 9 ∧ l = 116) ∨ (c = 10 ∧ l = 110) ∨ (c = 92 ∧ l = 92))) ∨
      (b = [92, 67, 45, b8 (c + 96)] ∧ 1 ≤ c ∧ c ≤ 26) ∨ (∃ x y, b = [92, 120, b8 x, b8 y] ∧ 0 ≤ x ∧ x ≤ 255 ∧ 0 ≤ y ∧ y ≤ 255 ∧ 0 ≤ digI x ∧ 0 ≤ digI y ∧ c = 16 * digI x + digI y)) : stp s a = .inr (c, a + b.length) := by
  rcases hc with ⟨rfl, h1, h2, h3⟩ | ⟨l, rfl, h⟩ | ⟨rfl, h1, h2⟩ | ⟨x, y, rfl, x0, x1, y0, y1, dx, dy, hc⟩
  · have e := hb 0 (by simp)
    simp only [List.getElem_cons_zero, Nat.add_zero] at e
    rw [b8_toNat (by omega) (by omega)] at e
    unfold stp
    rw [e, if_neg h3]
    rfl
  · have e0 := hb 0 (by simp)
    have e1 := hb 1 (by simp)
    simp only [List.getElem_cons_zero, List.getElem_cons_succ, Nat.add_zero] at e0 e1
    simp only [List.length_cons, List.length_nil] at ha
    have hn : ¬ a + 1 = s.size := by omega
    unfold stp esc
    rw [if_pos (by rw [e0]; rfl), if_neg hn, e1]
    rcases h with ⟨rfl, rfl⟩ | ⟨rfl, rfl⟩ | ⟨rfl, rfl⟩ | ⟨rfl, rfl⟩ | ⟨rfl, rfl⟩ <;> rfl
  · have e0 := hb 0 (by simp)
    have e1 := hb 1 (by simp)
    have e2 := hb 2 (by simp)
    have e3 := hb 3 (by simp)
    simp only [List.getElem_cons_zero, List.getElem_cons_succ, Nat.add_zero] at e0 e1 e2 e3
    rw [b8_toNat (by omega) (by omega)] at e3
    simp only [List.length_cons, List.length_nil] at ha
    have hn : ¬ a + 1 = s.size := by omega
    have hn2 : ¬ a + 1 + 1 = s.size := by omega
    have hn3 : ¬ a + 1 + 2 = s.size := by omega
    unfold stp esc
    rw [if_pos (by rw [e0]; rfl), if_neg hn, show a + 1 + 1 = a + 2 from rfl, show a + 1 + 2 = a + 3 from rfl, e1, e2, e3]
    rw [show ((67 : UInt8).toNat : Int) = 67 from rfl, show ((45 : UInt8).toNat : Int) = 45 from rfl]
    rw [if_neg (by decide), if_neg (by decide), if_neg (by decide), if_neg (by decide), if_neg (by decide), if_pos rfl, if_neg (by omega), if_neg (by decide), if_neg (by omega), if_neg (by omega), if_neg (by omega)]
    congr 2
    omega
  · have e0 := hb 0 (by simp)
    have e1 := hb 1 (by simp)
    have e2 := hb 2 (by simp)
    have e3 := hb 3 (by simp)
    simp only [List.getElem_cons_zero, List.getElem_cons_succ, Nat.add_zero] at e0 e1 e2 e3
    rw [b8_toNat x0 x1] at e2
    rw [b8_toNat y0 y1] at e3
    simp only [List.length_cons, List.length_nil] at ha
    have hn : ¬ a + 1 = s.size := by omega
    unfold stp esc
    rw [if_pos (by rw [e0]; rfl), if_neg hn, show a + 1 + 1 = a + 2 from rfl, show a + 1 + 2 = a + 3 from rfl, e1, e2, e3]
    rw [show ((120 : UInt8).toNat : Int) = 120 from rfl]
    rw [if_neg (by decide), if_neg (by decide), if_neg (by decide), if_neg (by decide), if_neg (by decide), if_neg (by decide), if_pos rfl, if_neg (by omega), if_neg (by omega), if_neg (by omega), if_neg (by omega), ← hc]
    rfl
/-- What a key is written as, sorted by its make. -/
theorem sh_cases (c : Int) (h0 : 0 ≤ c) (h1 : c ≤ 255) : (sh c = [b8 c] ∧ 32 ≤ c ∧ c ≤ 126 ∧ c ≠ 92) ∨ (∃ l, sh c = [92, l] ∧ ((c = 27 ∧ l = 101) ∨ (c = 127 ∧ l = 100) ∨ (c = 9 ∧ l = 116) ∨ (c = 10 ∧ l = 110) ∨ (c = 92 ∧ l = 92))) ∨
      (sh c = [92, 67, 45, b8 (c + 96)] ∧ 1 ≤ c ∧ c ≤ 26) ∨ (∃ x y, sh c = [92, 120, b8 x, b8 y] ∧ 0 ≤ x ∧ x ≤ 255 ∧ 0 ≤ y ∧ y ≤ 255 ∧ 0 ≤ digI x ∧ 0 ≤ digI y ∧ c = 16 * digI x + digI y) := by
  by_cases n1 : c = 27
  · subst n1; exact .inr (.inl ⟨101, rfl, .inl ⟨rfl, rfl⟩⟩)
  by_cases n2 : c = 127
  · subst n2; exact .inr (.inl ⟨100, rfl, .inr (.inl ⟨rfl, rfl⟩)⟩)
  by_cases n3 : c = 9
  · subst n3; exact .inr (.inl ⟨116, rfl, .inr (.inr (.inl ⟨rfl, rfl⟩))⟩)
  by_cases n4 : c = 10
  · subst n4; exact .inr (.inl ⟨110, rfl, .inr (.inr (.inr (.inl ⟨rfl, rfl⟩)))⟩)
  by_cases n5 : c = 92
  · subst n5; exact .inr (.inl ⟨92, rfl, .inr (.inr (.inr (.inr ⟨rfl, rfl⟩)))⟩)
  by_cases g1 : 1 ≤ c ∧ c ≤ 26
  · refine .inr (.inr (.inl ⟨?_, g1.1, g1.2⟩))
    unfold sh showB
    rw [if_neg n1, if_neg n2, if_neg n3, if_neg n4, if_neg n5, if_pos g1, show c - 1 + 97 = c + 96 by omega]
    rfl
  by_cases g2 : 32 ≤ c ∧ c ≤ 126
  · refine .inl ⟨?_, g2.1, g2.2, n5⟩
    unfold sh showB
    rw [if_neg n1, if_neg n2, if_neg n3, if_neg n4, if_neg n5, if_neg g1, if_pos g2]
    rfl
  · refine .inr (.inr (.inr ⟨bt digitsStr (c / 16), bt digitsStr (c % 16), ?_, (bt_range _ _).1, (bt_range _ _).2, (bt_range _ _).1, (bt_range _ _).2, ?_⟩))
    · unfold sh showB
      rw [if_neg n1, if_neg n2, if_neg n3, if_neg n4, if_neg n5, if_neg g1, if_neg g2]
      rfl
    · have := each_byte (p := fun c => decide (0 ≤ digI (bt digitsStr (c / 16)) ∧ 0 ≤ digI (bt digitsStr (c % 16)) ∧ c = 16 * digI (bt digitsStr (c / 16)) + digI (bt digitsStr (c % 16)))) (by decide +kernel) c h0 h1
      exact of_decide_eq_true this
/-- All that Show writes. -/
def shows (ks : List UInt8) : List UInt8 := ks.flatMap fun b => sh (b.toNat : Int)
theorem byte_in (b : UInt8) : (0 : Int) ≤ (b.toNat : Int) ∧ (b.toNat : Int) ≤ 255 := by have := b.toNat_lt; omega
theorem b8_byte (b : UInt8) : b8 (b.toNat : Int) = b := by
  apply UInt8.toNat_inj.mp
  have := b8_toNat (byte_in b).1 (byte_in b).2
  omega
theorem read_back : ∀ (ks pre : List UInt8), Pa ⟨(pre ++ shows ks).toArray⟩ pre.length (.inr ks)
  | [], pre => by
    have h := Pa.nil (s := ⟨(pre ++ shows []).toArray⟩)
    rw [arr_size] at h
    simpa [shows] using h
  | b :: ks, pre => by
    have hb := byte_in b
    have hs := sh_short _ hb.1 hb.2
    have e : shows (b :: ks) = sh (b.toNat : Int) ++ shows ks := by simp [shows]
    have ih := read_back ks (pre ++ sh (b.toNat : Int))
    rw [List.length_append, List.append_assoc] at ih
    have hz : pre.length + (sh (b.toNat : Int)).length ≤ (⟨(pre ++ (sh (b.toNat : Int) ++ shows ks)).toArray⟩ : ByteArray).size := by rw [arr_size]; simp
    rw [e]
    have hst := stp_of ⟨(pre ++ (sh (b.toNat : Int) ++ shows ks)).toArray⟩ pre.length (sh (b.toNat : Int)) hz (fun i h => by have := bt_mid pre (sh (b.toNat : Int)) (shows ks) i h; rwa [List.append_assoc] at this) (b.toNat : Int) (sh_cases _ hb.1 hb.2)
    have h := Pa.ok (by omega) hst ih
    simpa [consR, b8_byte] using h
theorem shows_len (ks : List UInt8) : (shows ks).length ≤ 4 * ks.length := by
  induction ks with
  | nil => simp [shows]
  | cons b ks ih =>
    have e : shows (b :: ks) = sh (b.toNat : Int) ++ shows ks := by simp [shows]
    have hb := byte_in b
    have hs := sh_short _ hb.1 hb.2
    rw [e, List.length_append, List.length_cons]
    omega
theorem shows_plain (ks : List UInt8) : ∀ b ∈ shows ks, 32 ≤ b.toNat ∧ b.toNat ≤ 126 := by
  intro b hb
  obtain ⟨k, _, hk⟩ := List.mem_flatMap.1 hb
  have h := byte_in k
  exact sh_plain _ h.1 h.2 b hk
theorem bt_keys (s : ByteArray) (i : Nat) (h : i < s.size) : ∃ h' : i < s.data.toList.length, bt s (i : Int) = ((s.data.toList[i]'h').toNat : Int) := by
  have h' : i < s.data.toList.length := by rw [data_length]; exact h
  refine ⟨h', ?_⟩
  unfold bt
  simp only [Int.toNat_natCast]
  rw [dif_pos h]
  simp
  rfl
theorem drop_shows (s : ByteArray) (i : Nat) (h : i < s.size) : shows (s.data.toList.drop i) = sh (bt s (i : Int)) ++ shows (s.data.toList.drop (i + 1)) := by
  obtain ⟨h', e⟩ := bt_keys s i h
  rw [e, List.drop_eq_getElem_cons h']
  simp [shows]
theorem show_ev (s : ByteArray) (hs : s.size ≤ 300) : ∀ m i (acc : List UInt8), s.size - i = m → i ≤ s.size → acc.length ≤ 4 * i → Ev (fun k => keymap_Show.l0 k s ⟨acc.toArray⟩ (s.size : Int) (i : Int)) ⟨(acc ++ shows (s.data.toList.drop i)).toArray⟩ := by
  intro m
  induction m with
  | zero =>
    intro i acc hm hi _
    refine Ev.shift 1 fun k => ?_
    have hd : s.data.toList.drop i = [] := List.drop_eq_nil_of_le (by rw [data_length]; omega)
    rw [keymap_Show.l0, if_neg (by omega), hd]
    simp [shows]
  | succ m ih =>
    intro i acc hm hi hacc
    have g1 : (i : Int) < (s.size : Int) := by omega
    have g2 : (0 : Int) ≤ (i : Int) := by omega
    have br := bt_range s (i : Int)
    have hl := sh_short _ br.1 br.2
    have hf : keymap_show.f (bt s (i : Int)) = some (showB (bt s (i : Int))) := by unfold keymap_show.f; rw [if_pos br]
    rw [drop_shows s i (by omega), ← List.append_assoc]
    refine Ev.shiftE 1 (fun k => ?_) (ih (i + 1) (acc ++ sh (bt s (i : Int))) (by omega) (by omega) (by simp; omega))
    · rw [keymap_Show.l0, if_pos g1, if_pos g2, if_pos g1, hf, Option.bind_some, sh_arr, arr_append, wrap_in (by omega) (by omega)]
      rw [arr_size, arr_size, if_pos (by omega)]
      rfl
theorem refshow_ev (s : ByteArray) (hs : s.size ≤ 300) : ∀ m i (acc : List UInt8), s.size - i = m → i ≤ s.size → acc.length ≤ 4 * i → Ev (fun k => jobshellref45_Show.l0 k s ⟨acc.toArray⟩ (i : Int)) ⟨(acc ++ shows (s.data.toList.drop i)).toArray⟩ := by
  intro m
  induction m with
  | zero =>
    intro i acc hm hi _
    refine Ev.shift 1 fun k => ?_
    have hd : s.data.toList.drop i = [] := List.drop_eq_nil_of_le (by rw [data_length]; omega)
    rw [jobshellref45_Show.l0, if_neg (by omega), hd]
    simp [shows]
  | succ m ih =>
    intro i acc hm hi hacc
    have g1 : (i : Int) < (s.size : Int) := by omega
    have g2 : (0 : Int) ≤ (i : Int) := by omega
    have br := bt_range s (i : Int)
    have hl := sh_short _ br.1 br.2
    have hf : jobshellref45_show.f (bt s (i : Int)) = some (showB (bt s (i : Int))) := by unfold jobshellref45_show.f; rw [if_pos br, sh_same _ br.1 br.2]
    rw [drop_shows s i (by omega), ← List.append_assoc]
    refine Ev.shiftE 1 (fun k => ?_) (ih (i + 1) (acc ++ sh (bt s (i : Int))) (by omega) (by omega) (by simp; omega))
    · rw [jobshellref45_Show.l0, if_pos g1, if_pos g2, hf, Option.bind_some, sh_arr, arr_append, wrap_in (by omega) (by omega)]
      rw [arr_size, arr_size, if_pos (by omega)]
      rfl
theorem fold_shows {s : ByteArray} {l : List UInt8} (i : Nat) (h : i < s.size) (acc : List UInt8) : acc ++ sh (bt s (i : Int)) ++ shows (s.data.toList.drop (i + 1)) = acc ++ shows (s.data.toList.drop i) := by
  rw [drop_shows s i h, List.append_assoc]

/-- The law's own loop: every byte lies from 32 to 126; and what follows. -/
theorem loop_ev (s : ByteArray) (t : List UInt8) (ht : ∀ b ∈ t, 32 ≤ b.toNat ∧ b.toNat ≤ 126) (hl : t.length ≤ 2000)
    (hend : Ev (fun k => jobshelllaw45_KeymapShows.l0 k s ⟨t.toArray⟩ (t.length : Int)) true) : ∀ m i, t.length - i = m → i ≤ t.length → Ev (fun k => jobshelllaw45_KeymapShows.l0 k s ⟨t.toArray⟩ (i : Int)) true := by
  intro m
  induction m with
  | zero =>
    intro i hm hi
    obtain rfl : i = t.length := by omega
    exact hend
  | succ m ih =>
    intro i hm hi
    have hz := arr_size t
    have hi2 : i < t.length := by omega
    have g1 : (i : Int) < ((⟨t.toArray⟩ : ByteArray).size : Int) := by omega
    have g2 : (0 : Int) ≤ (i : Int) := by omega
    have hb := ht t[i] (List.getElem_mem hi2)
    have e := bt_list t i hi2
    refine Ev.shiftE 1 (fun k => ?_) (ih (i + 1) (by omega) (by omega))
    rw [jobshelllaw45_KeymapShows.l0, if_pos g1, if_pos g2, e, if_neg (by omega), if_neg (by omega), wrap_in (by omega) (by omega)]
    rfl

theorem KeymapShows : jobshelllaw45_KeymapShows.Pure := by
  intro s hs
  refine Ev.rounds ?_
  unfold jobshelllaw45_KeymapShows.f
  by_cases hz : (s.size : Int) > 300
  · exact Ev.congr (fun k => if_pos hz) (Ev.bind awake_ev (Ev.now _))
  · refine Ev.congr (fun k => if_neg hz) ?_
    have hs3 : s.size ≤ 300 := by omega
    have h1 := show_ev s hs3 _ 0 [] rfl (by omega) (by simp)
    have h2 := refshow_ev s hs3 _ 0 [] rfl (by omega) (by simp)
    rw [List.drop_zero, List.nil_append] at h1 h2
    have hlen := shows_len s.data.toList
    rw [data_length] at hlen
    have hp := read_back s.data.toList []
    rw [List.nil_append, List.length_nil] at hp
    have hzz := arr_size (shows s.data.toList)
    have h3 := parse_ev ⟨(shows s.data.toList).toArray⟩ (by omega) hp [] (by simp; omega)
    have h3' : Ev (fun k => keymap_Parse.f k ⟨(shows s.data.toList).toArray⟩) (fin [] (.inr s.data.toList)) := Ev.congr (fun k => by unfold keymap_Parse.f; rw [if_pos (by omega), cut_all]) h3
    refine Ev.bind h1 (loop_ev s _ (shows_plain _) (by omega) ?_ _ 0 rfl (by omega))
    refine Ev.shiftE 1 (fun k => by rw [jobshelllaw45_KeymapShows.l0, if_neg (by omega)]) ?_
    refine Ev.bind h3' ?_
    simp only [fin, List.nil_append, data_length]
    by_cases h16 : (s.size : Int) > 16
    · refine Ev.congr (fun k => if_pos h16) (Ev.bind h2 (Ev.congr (fun k => ?_) (Ev.bind awake_ev (Ev.now _))))
      rw [if_pos rfl, if_pos h16, if_pos (nil_size.2 rfl), if_pos rfl]
    · refine Ev.congr (fun k => if_neg h16) (Ev.bind h2 (Ev.congr (fun k => ?_) (Ev.bind awake_ev (Ev.now _))))
      rw [if_pos rfl, if_neg h16, if_pos (by rfl), if_pos rfl]
end Go.Proofs.YtklcndfnboieoaaDoor.K
