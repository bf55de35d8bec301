/- Plain facts on bytes and rounds, for the pure laws of this seat. -/
import Derived.Test.YtklcndfnboieoaaDoorWWords
import Derived.Test.YtklcndfnboieoaaDoorWLast
import Derived.Test.YtklcndfnboieoaaDoorWMore
namespace Go.Proofs.YtklcndfnboieoaaDoor.K
set_option linter.unusedVariables false
set_option linter.unusedSimpArgs false
open Go Go.RowKit Go.Proofs.YtklcndfnboieoaaDoorW.PrintWords

theorem wrap_in {x : Int} (h0 : -9223372036854775808 ≤ x) (h1 : x ≤ 9223372036854775807) : wrap64 x = x := by unfold wrap64; omega
/-- A cut from a on, byte by byte. -/
theorem bt_cut (s : ByteArray) (a i : Nat) (h : a + i < s.size) : bt (s.extract a s.size) (i : Int) = bt s ((a + i : Nat) : Int) := by
  have h1 : i < (s.extract a s.size).size := by rw [ByteArray.size_extract]; omega
  unfold bt
  simp only [Int.toNat_natCast]
  rw [dif_pos h1, dif_pos h, ByteArray.getElem_extract]
theorem size_cut (s : ByteArray) (a : Nat) : (s.extract a s.size).size = s.size - a := by rw [ByteArray.size_extract]; omega
theorem cut_cut (s : ByteArray) (a i : Nat) : (s.extract a s.size).extract i (s.extract a s.size).size = s.extract (a + i) s.size := by
  rw [ByteArray.extract_extract, size_cut]
  rcases Nat.lt_or_ge s.size (a + i) with h | h
  · apply ByteArray.ext
    apply Array.ext'
    rw [ByteArray.data_extract, ByteArray.data_extract]
    simp
    omega
  · congr 1
    omega
def b8 (c : Int) : UInt8 := UInt8.ofNat c.toNat
theorem b8_toNat {c : Int} (h0 : 0 ≤ c) (h1 : c ≤ 255) : ((b8 c).toNat : Int) = c := by
  unfold b8
  rw [UInt8.toNat_ofNat']
  omega
theorem arr_append (l l' : List UInt8) : (⟨l.toArray⟩ : ByteArray) ++ ⟨l'.toArray⟩ = ⟨(l ++ l').toArray⟩ := by
  apply ByteArray.ext
  rw [ByteArray.data_append]
  simp
theorem arr_size (l : List UInt8) : (⟨l.toArray⟩ : ByteArray).size = l.length := by
  show l.toArray.size = _
  simp
theorem nums_one (c : Int) : strOfNums [c] = ⟨[b8 c].toArray⟩ := rfl
theorem cut_one (s : ByteArray) (a : Nat) (h : a < s.size) : s.extract a (a + 1) = ⟨[b8 (bt s (a : Int))].toArray⟩ := by
  apply ByteArray.ext
  rw [ByteArray.data_extract]
  apply Array.ext'
  have hz : s.data.size = s.size := rfl
  apply List.ext_getElem
  · simp [hz]; omega
  · intro i h1 h2
    simp at h2
    subst h2
    have e : bt s (a : Int) = ((s[a]'h).toNat : Int) := by unfold bt; simp [h]
    simp [e, b8]
    rfl
theorem nil_size {s : ByteArray} : s.toList = [] ↔ s.size = 0 := by
  rw [ByteArray.toList_eq]
  constructor
  · intro h
    have := data_length s
    rw [h] at this
    simpa using this.symm
  · intro h
    exact List.eq_nil_of_length_eq_zero (by rw [data_length]; exact h)
theorem list_inj {s t : ByteArray} : s.toList = t.toList ↔ s = t := by
  constructor
  · intro h
    rw [ByteArray.toList_eq, ByteArray.toList_eq] at h
    exact ByteArray.ext (Array.ext' h)
  · rintro rfl; rfl

/-- From some number of rounds on, told by its tail. -/
theorem Ev.shift {α : Type} {g : Nat → Option α} {r : α} (c : Nat) (h : ∀ k, g (k + c) = some r) : Ev g r := by
  refine ⟨c, fun k hk => ?_⟩
  obtain ⟨m, rfl⟩ : ∃ m, k = m + c := ⟨k - c, by omega⟩
  exact h m
theorem Ev.shiftE {α : Type} {g f : Nat → Option α} {r : α} (c : Nat) (h : ∀ k, g (k + c) = f k) (k : Ev f r) : Ev g r := by
  obtain ⟨K, k⟩ := k
  refine ⟨K + c, fun n hn => ?_⟩
  obtain ⟨m, rfl⟩ : ∃ m, n = m + c := ⟨n - c, by omega⟩
  rw [h]
  exact k m (by omega)
end Go.Proofs.YtklcndfnboieoaaDoor.K
