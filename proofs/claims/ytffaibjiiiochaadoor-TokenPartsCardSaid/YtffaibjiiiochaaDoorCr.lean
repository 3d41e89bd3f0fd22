/- Reserved of layer 6, and what the walks ask of a world (strings' table of blanks). -/
import Derived.Test.YtffaibjiiiochaaDoorCq
set_option linter.unusedVariables false
set_option linter.unusedSimpArgs false
namespace Go.Proofs.YtffaibjiiiochaaDoor.Ct
open Go.RowKit Go.Proofs.YtffaibjiiiochaaDoorW.PrintWords Go.Proofs.YtffaibjiiiochaaDoorW.PrintLast Go.Proofs.YtffaibjiiiochaaDoorW.PrintMore Go.Proofs.YtffaibjiiiochaaDoor.Tk
/-- what the library's own variable must hold -/
def OkW (w : World) : Prop := Lib.TabIs Tryd.prog w "strings.asciiSpace" .u8 Lib.asciiSpaceTab
theorem OkW.below {w w' : World} (h : OkW w) (hb : Below w.heap.size w w') : OkW w' := by
  obtain ⟨g, hg⟩ : ∃ g, Tryd.prog.globalNamed "strings.asciiSpace" = some g := Option.isSome_iff_exists.1 (by kernel_rfl)
  unfold OkW Lib.TabIs World.var? at h ⊢
  rw [hg] at h ⊢
  simp only [Option.bind_some] at h ⊢
  have hlt : g < w.heap.size := by
    rcases Nat.lt_or_ge g w.heap.size with h' | h'
    · exact h'
    · rw [Array.getElem?_eq_none h'] at h; cases h
  rw [hb.block g hlt]
  exact h
/-- the words that are no names -/
def resText : ByteArray := ⟨#[32, 97, 108, 108, 32, 97, 110, 100, 32, 97, 115, 32, 97, 115, 99, 32, 98, 101, 103, 105, 110, 32, 98, 101, 116, 119, 101, 101, 110, 32, 98, 108, 111, 98, 32, 98, 111, 111, 108, 32, 98, 121, 32, 99, 97, 115, 101, 32, 99, 111, 109, 109, 105, 116, 32, 99, 114, 101, 97, 116, 101, 32, 99, 114, 111, 115, 115, 32, 100, 101, 108, 101, 116, 101, 32, 100, 101, 115, 99, 32, 100, 105, 115, 116, 105, 110, 99, 116, 32, 100, 114, 111, 112, 32, 101, 120, 99, 101, 112, 116, 32, 101, 120, 105, 115, 116, 115, 32, 102, 97, 108, 115, 101, 32, 102, 114, 111, 109, 32, 102, 117, 108, 108, 32, 103, 114, 111, 117, 112, 32, 104, 97, 118, 105, 110, 103, 32, 105, 110, 32, 105, 110, 100, 101, 120, 32, 105, 110, 110, 101, 114, 32, 105, 110, 115, 101, 114, 116, 32, 105, 110, 116, 32, 105, 110, 116, 101, 114, 115, 101, 99, 116, 32, 105, 110, 116, 111, 32, 105, 115, 32, 106, 111, 105, 110, 32, 107, 101, 121, 32, 108, 101, 102, 116, 32, 108, 105, 107, 101, 32, 108, 105, 109, 105, 116, 32, 110, 111, 116, 32, 110, 117, 108, 108, 32, 111, 102, 102, 115, 101, 116, 32, 111, 110, 32, 111, 114, 32, 111, 114, 100, 101, 114, 32, 111, 117, 116, 101, 114, 32, 112, 114, 105, 109, 97, 114, 121, 32, 114, 105, 103, 104, 116, 32, 114, 111, 108, 108, 98, 97, 99, 107, 32, 115, 101, 108, 101, 99, 116, 32, 115, 101, 116, 32, 116, 97, 98, 108, 101, 32, 116, 101, 120, 116, 32, 116, 114, 117, 101, 32, 117, 110, 105, 111, 110, 32, 117, 110, 105, 113, 117, 101, 32, 117, 112, 100, 97, 116, 101, 32, 117, 115, 105, 110, 103, 32, 118, 97, 108, 117, 101, 115, 32, 119, 104, 101, 114, 101, 32]⟩
def resWords : List ByteArray := (Lib.fields resText.data.toList).map fun l => ⟨l.toArray⟩
def resS (s : ByteArray) : Bool := Lib.containsS resWords s
theorem resAscii : ∀ (j : Nat) b, resText.data.toList[j]? = some b → b.toNat < 128 := by
  intro j b h
  have hall : ∀ b ∈ resText.data.toList, b.toNat < 128 := by decide +kernel
  exact hall b (List.mem_of_getElem? h)
set_option maxHeartbeats 4000000 in
set_option maxRecDepth 100000 in
theorem Reserved (s : ByteArray) (w : World) (hok : OkW w) :
    Calls Tryd.prog 15 #[.string s] w fun e w' => e = .returned (.bool (resS s)) ∧ Below w.heap.size w w' := by
  have HK := Aside0.mk hok
  clear hok
  go_enter Tryd.func15, Tryd.ntmps15
  go_wp2_with fail
  refine (Tryd.strings_Fields resText w (by decide +kernel) resAscii HK.out).mono ?_
  rintro e w1 ⟨rfl, rfl⟩
  have hlen : (Lib.fields resText.data.toList).length = resWords.length := by unfold resWords; rw [List.length_map]
  rw [hlen]
  go_wp2_with fail
  refine (Tryd.slices_Contains_string w.heap.size 0 resWords.length resWords.length resWords s _ (Nat.le_refl _) (by decide +kernel) ?_).mono ?_
  · intro j hj
    refine (Lib.cell_of_heap (heap_alloc_new w _) (0 + j)).trans ?_
    rw [Nat.zero_add, List.getElem?_toArray, List.getElem?_map]
    have h2 : j < (Lib.fields resText.data.toList).length := by rw [hlen]; exact hj
    rw [List.getElem?_eq_getElem h2, List.getD_eq_getElem?_getD, List.getElem?_eq_getElem hj]
    simp [resWords]
  · rintro e w2 ⟨rfl, rfl⟩
    rw [List.take_length]
    go_wp2
    go_ret
    exact ⟨rfl, (Below.refl _ w).alloc (Nat.le_refl _) _⟩
end Go.Proofs.YtffaibjiiiochaaDoor.Ct
