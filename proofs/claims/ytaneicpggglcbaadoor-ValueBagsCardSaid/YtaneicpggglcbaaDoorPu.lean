/- Plain words that the pure halves share: a byte array as a list of bytes; rounds ('Ev') taken test by test. No Go in it. -/
import Derived.Test.YtaneicpggglcbaaDoorWWords
set_option linter.unusedVariables false
set_option linter.unusedSimpArgs false
namespace Go.Proofs.YtaneicpggglcbaaDoor.Pu
open Go.RowKit Go.Proofs.YtaneicpggglcbaaDoorW.PrintWords

def bs (s : ByteArray) : List UInt8 := s.data.toList
theorem bs_length (s : ByteArray) : (bs s).length = s.size := by rw [bs, Array.length_toList]; rfl
theorem bs_ext {a b : ByteArray} (h : bs a = bs b) : a = b := by
  cases a; cases b; simp only [bs] at h; rw [Array.toList_inj.1 h]
theorem bs_inj {a b : ByteArray} : bs a = bs b ↔ a = b := ⟨bs_ext, fun h => by rw [h]⟩
theorem bs_toList (s : ByteArray) : s.toList = bs s := ByteArray.toList_eq s
theorem bs_mk (l : List UInt8) : bs ⟨l.toArray⟩ = l := rfl
theorem mk_bs (s : ByteArray) : (⟨(bs s).toArray⟩ : ByteArray) = s := bs_ext rfl
theorem bs_nil : bs (⟨#[]⟩ : ByteArray) = [] := rfl
theorem bs_append (a b : ByteArray) : bs (a ++ b) = bs a ++ bs b := by
  simp [bs, ByteArray.data_append]
theorem bs_extract (s : ByteArray) (a b : Nat) : bs (s.extract a b) = ((bs s).take b).drop a := by
  simp only [bs, ByteArray.data_extract, Array.toList_extract, List.extract_eq_take_drop, List.drop_take]
theorem bs_from (s : ByteArray) (a : Nat) : bs (s.extract a s.size) = (bs s).drop a := by
  rw [bs_extract, ← bs_length, List.take_length]
theorem bs_to (s : ByteArray) (b : Nat) : bs (s.extract 0 b) = (bs s).take b := by
  rw [bs_extract, List.drop_zero]
theorem size_mk (l : List UInt8) : (⟨l.toArray⟩ : ByteArray).size = l.length := rfl
theorem bt_get (s : ByteArray) (i : Nat) (h : i < (bs s).length) : bt s (i : Int) = (((bs s)[i]).toNat : Int) := by
  have h' : i < s.size := by rw [← bs_length]; exact h
  unfold bt
  rw [dif_pos (by simpa using h')]
  rfl
theorem bt_drop {s : ByteArray} {i : Nat} {c : UInt8} {r : List UInt8} (h : (bs s).drop i = c :: r) : bt s (i : Int) = (c.toNat : Int) := by
  have hl : i < (bs s).length := by
    rcases Nat.lt_or_ge i (bs s).length with h' | h'
    · exact h'
    · rw [List.drop_of_length_le h'] at h; cases h
  rw [bt_get s i hl]
  rw [List.drop_eq_getElem_cons hl] at h
  injection h with h1 _
  rw [h1]
theorem drop_lt {α : Type} {l : List α} {i : Nat} {c : α} {r : List α} (h : l.drop i = c :: r) : i < l.length := by
  rcases Nat.lt_or_ge i l.length with h' | h'
  · exact h'
  · rw [List.drop_of_length_le h'] at h; cases h
theorem drop_len {α : Type} {l : List α} {i : Nat} {r : List α} (h : l.drop i = r) (hi : i ≤ l.length) : l.length = i + r.length := by
  rw [← h, List.length_drop]; omega
theorem drop_next {α : Type} {l : List α} {i : Nat} {c : α} {r : List α} (h : l.drop i = c :: r) : l.drop (i + 1) = r := by
  rw [← List.drop_drop, h]; rfl
theorem take_next {α : Type} {l : List α} {i : Nat} {c : α} {r : List α} (h : l.drop i = c :: r) : l.take (i + 1) = l.take i ++ [c] := by
  have hl := drop_lt h
  rw [List.take_succ_eq_append_getElem hl]
  rw [List.drop_eq_getElem_cons hl] at h
  injection h with h1 _
  rw [h1]
theorem byte_lt (c : UInt8) : c.toNat < 256 := c.toNat_lt
theorem byte_back (c : UInt8) : c.toNat.toUInt8 = c := by simp
theorem byte_inj {c d : UInt8} (h : c.toNat = d.toNat) : c = d := UInt8.toNat_inj.1 h
theorem wrap_id {n : Int} (h0 : -9223372036854775808 ≤ n) (h1 : n ≤ 9223372036854775807) : wrap64 n = n := by unfold wrap64; omega

theorem Ev.pos {α : Type} {c : Prop} [Decidable c] {f g : Nat → Option α} {r : α} (h : c) (k : Ev f r) : Ev (fun n => if c then f n else g n) r := Ev.congr (fun n => if_pos h) k
theorem Ev.neg {α : Type} {c : Prop} [Decidable c] {f g : Nat → Option α} {r : α} (h : ¬ c) (k : Ev g r) : Ev (fun n => if c then f n else g n) r := Ev.congr (fun n => if_neg h) k
theorem Ev.done {α : Type} {q r : α} (h : q = r) : Ev (fun _ => some q) r := by subst h; exact Ev.now _
theorem Ev.same {α : Type} {o : Option α} {r : α} (h : o = some r) : Ev (fun _ => o) r := by subst h; exact Ev.now _
theorem Ev.given {α β : Type} {q : α} {f : Nat → α → Option β} {r : β} (k : Ev (fun n => f n q) r) : Ev (fun n => (some q).bind (f n)) r := k
theorem Ev.eq {α : Type} {f : Nat → Option α} {q r : α} (k : Ev f q) (h : q = r) : Ev f r := h ▸ k
theorem Ev.det {α : Type} {f : Nat → Option α} {q r : α} (h : Ev f q) (k : Ev f r) : q = r := by
  obtain ⟨a, h⟩ := h; obtain ⟨b, k⟩ := k
  have h1 := h (max a b) (by omega); have h2 := k (max a b) (by omega)
  rw [h1] at h2; exact Option.some.inj h2
theorem Ev.at1 {α : Type} {g : Nat → Option α} {r : α} (k : Ev (fun n => g (n + 1)) r) : Ev g r := Ev.step (fun _ => rfl) k
end Go.Proofs.YtaneicpggglcbaaDoor.Pu
