/- TokenTexts of layer 6: the plain words, and the walk by hand. -/
import Derived.Test.YtffaibjiiiochaaDoorQTBx2
import Derived.Test.YtffaibjiiiochaaDoorPu
import Derived.BigRegion
set_option linter.unusedVariables false
set_option linter.unusedSimpArgs false
namespace Go.Proofs.YtffaibjiiiochaaDoor.Ht
open Go.RowKit Go.Proofs.YtffaibjiiiochaaDoorW.PrintWords Go.Proofs.YtffaibjiiiochaaDoorW.PrintLast Go.Proofs.YtffaibjiiiochaaDoorW.PrintMore Go.Proofs.YtffaibjiiiochaaDoor.Tk Go.Proofs.YtffaibjiiiochaaDoor.Pu Go.Proofs.YtffaibjiiiochaaDoor.QTB
open Go.Proofs.YtffaibjiiiochaaDoor.Ct (peekS peekS_in peekS_out peekS_range drop_at drop_end head_peek)
def tabU : ByteArray := ⟨#[48, 49, 50, 51, 52, 53, 54, 55, 56, 57, 65, 66, 67, 68, 69, 70]⟩
def tabL : ByteArray := ⟨#[48, 49, 50, 51, 52, 53, 54, 55, 56, 57, 97, 98, 99, 100, 101, 102]⟩
/-- a byte's two digits -/
def hU (c : Int) : Int := bt tabU (c / 16)
def hL (c : Int) : Int := bt tabL (c % 16)
def dbl : List Int → List Int
  | [] => []
  | c :: r => if c = 39 then 39 :: 39 :: dbl r else c :: dbl r
def hx : List Int → List Int
  | [] => []
  | c :: r => hU c :: hL c :: hx r
theorem digs : ∀ n : Fin 256, hex (hU (n.val : Int)) = (n.val : Int) / 16 ∧ hex (hL (n.val : Int)) = (n.val : Int) % 16 ∧ hU (n.val : Int) ≠ 39 := by decide +kernel
theorem digs' {c : Int} (h0 : 0 ≤ c) (h1 : c ≤ 255) : hex (hU c) = c / 16 ∧ hex (hL c) = c % 16 ∧ hU c ≠ 39 := by
  obtain ⟨n, rfl⟩ : ∃ n : Nat, c = n := ⟨c.toNat, by omega⟩
  exact digs ⟨n, by omega⟩
theorem dbl_snoc (c : Int) : ∀ l : List Int, dbl (l ++ [c]) = dbl l ++ (if c = 39 then [39, 39] else [c])
  | [] => by simp only [List.nil_append, dbl]
  | d :: l => by
    rw [List.cons_append, dbl, dbl, dbl_snoc c l]
    split <;> rfl
theorem hx_snoc (c : Int) : ∀ l : List Int, hx (l ++ [c]) = hx l ++ [hU c, hL c]
  | [] => rfl
  | d :: l => by rw [List.cons_append, hx, hx, hx_snoc c l]; rfl
theorem dbl_len : ∀ l : List Int, (dbl l).length ≤ 2 * l.length
  | [] => Nat.le_refl _
  | c :: r => by
    have := dbl_len r
    rw [dbl]
    split <;> simp <;> omega
theorem hx_len : ∀ l : List Int, (hx l).length = 2 * l.length
  | [] => rfl
  | c :: r => by rw [hx, List.length_cons, List.length_cons, hx_len r]; simp; omega
theorem text_dbl (R : List Int) (hR : R.head? ≠ some 39) : ∀ l : List Int, textT (dbl l ++ 39 :: R) = some (l, R)
  | [] => Ct.textT_close hR
  | c :: r => by
    rw [dbl]
    split
    · rename_i h
      show textT (39 :: 39 :: (dbl r ++ 39 :: R)) = _
      rw [Ct.textT_twice, text_dbl R hR r, h]; rfl
    · rename_i h
      show textT (c :: (dbl r ++ 39 :: R)) = _
      rw [Ct.textT_other h, text_dbl R hR r]; rfl
theorem blob_hx (R : List Int) : ∀ l : List Int, (∀ x ∈ l, 0 ≤ x ∧ x ≤ 255) → blobT (hx l ++ 39 :: R) = some (l, R)
  | [], _ => by
    show blobT (39 :: R) = _
    cases R with
    | nil => rw [blobT, if_pos rfl]
    | cons d r => rw [blobT, if_pos rfl]
  | c :: r, h => by
    have hc := h c (by simp)
    obtain ⟨h1, h2, h3⟩ := digs' hc.1 hc.2
    show blobT (hU c :: hL c :: (hx r ++ 39 :: R)) = _
    rw [blobT, if_neg h3, h1, h2, if_pos ⟨by omega, by omega⟩, blob_hx R r (fun x hx' => h x (by simp [hx']))]
    simp only [Option.map_some]
    have e : 16 * (c / 16) + c % 16 = c := by omega
    rw [e]
/-- the whole statement -/
def whole (l : List Int) : List Int := 39 :: (dbl l ++ 39 :: 88 :: 39 :: (hx l ++ [39]))
theorem cut_whole (l : List Int) (h : ∀ x ∈ l, 0 ≤ x ∧ x ≤ 255) : cutS (whole l) = .inl [((3, l, 0), (whole l).length), ((4, l, 0), (hx l).length + 3), ((6, [], 0), 0)] := by
  have s1 : skipB false (whole l) = whole l := by
    unfold whole
    rw [skipB, if_neg (by decide), if_neg (fun h => absurd h.1 (by decide))]
  have s2 : skipB false (88 :: 39 :: (hx l ++ [39])) = 88 :: 39 :: (hx l ++ [39]) := by
    rw [skipB, if_neg (by decide), if_neg (fun h => absurd h.1 (by decide))]
  have o1 : oneT (whole l) = some ((3, l, 0), 88 :: 39 :: (hx l ++ [39])) := by
    unfold whole
    rw [oneT, if_neg (fun h => absurd h.1 (by decide)), if_neg (by decide), if_neg (by decide), if_pos rfl, text_dbl _ (by simp) l]
    rfl
  have o2 : oneT (88 :: 39 :: (hx l ++ [39])) = some ((4, l, 0), []) := by
    rw [oneT, if_pos ⟨.inr rfl, rfl⟩, List.tail_cons, blob_hx [] l h]
    rfl
  have c3 : cutS [] = .inl [((6, [], 0), 0)] := rfl
  have c2 : cutS (88 :: 39 :: (hx l ++ [39])) = .inl [((4, l, 0), (hx l).length + 3), ((6, [], 0), 0)] := by
    rw [cutS_eq, s2]
    simp only
    rw [o2]
    simp only
    rw [c3]
    simp only [Sum.inl.injEq, List.cons.injEq, Prod.mk.injEq, true_and, and_true]
    simp
  rw [cutS_eq, s1]
  unfold whole at o1 ⊢
  simp only
  rw [o1]
  simp only
  rw [c2]
  simp
theorem strOf_append (a b : List Int) : strOfNums a ++ strOfNums b = strOfNums (a ++ b) := by
  apply bs_ext
  rw [bs_append]
  simp [bs, strOfNums]
theorem strOf_size (a : List Int) : (strOfNums a).size = a.length := by
  show (strOfNums a).data.size = _
  simp [strOfNums]
theorem bytesOf_strOf {w : List Int} (h : ∀ x ∈ w, 0 ≤ x ∧ x ≤ 255) : bytesOf (strOfNums w) = w := by
  unfold bytesOf strOfNums
  rw [List.toList_toArray, List.map_map]
  conv => rhs; rw [← List.map_id w]
  refine List.map_congr_left fun x hx => ?_
  have := h x hx
  show ((UInt8.ofNat x.toNat).toNat : Int) = x
  rw [UInt8.toNat_ofNat']
  omega
theorem strOf_bytes (s : ByteArray) : strOfNums (bytesOf s) = s := by
  have h := Ct.str_of_bytes s.data.toList
  rw [Array.toArray_toList] at h
  exact h.symm
theorem bytes_ok (s : ByteArray) : ∀ x ∈ bytesOf s, 0 ≤ x ∧ x ≤ 255 := by
  intro x hx
  unfold bytesOf at hx
  obtain ⟨b, _, rfl⟩ := List.mem_map.1 hx
  have := b.toNat_lt
  omega
theorem digr : ∀ n : Fin 256, (0 ≤ hU (n.val : Int) ∧ hU (n.val : Int) ≤ 255) ∧ (0 ≤ hL (n.val : Int) ∧ hL (n.val : Int) ≤ 255) := by decide +kernel
theorem digr' {c : Int} (h0 : 0 ≤ c) (h1 : c ≤ 255) : (0 ≤ hU c ∧ hU c ≤ 255) ∧ (0 ≤ hL c ∧ hL c ≤ 255) := by
  obtain ⟨n, rfl⟩ : ∃ n : Nat, c = n := ⟨c.toNat, by omega⟩
  exact digr ⟨n, by omega⟩
theorem dbl_ok : ∀ l : List Int, (∀ x ∈ l, 0 ≤ x ∧ x ≤ 255) → ∀ x ∈ dbl l, 0 ≤ x ∧ x ≤ 255
  | [], _, x, hx => by cases hx
  | c :: r, h, x, hx => by
    have ih := dbl_ok r (fun y hy => h y (by simp [hy]))
    have hc := h c (by simp)
    rw [dbl] at hx
    split at hx
    · rcases List.mem_cons.1 hx with rfl | hx
      · decide
      · rcases List.mem_cons.1 hx with rfl | hx
        · decide
        · exact ih x hx
    · rcases List.mem_cons.1 hx with rfl | hx
      · exact hc
      · exact ih x hx
theorem hx_ok : ∀ l : List Int, (∀ x ∈ l, 0 ≤ x ∧ x ≤ 255) → ∀ x ∈ hx l, 0 ≤ x ∧ x ≤ 255
  | [], _, x, hx' => by cases hx'
  | c :: r, h, x, hx' => by
    have ih := hx_ok r (fun y hy => h y (by simp [hy]))
    have hc := h c (by simp)
    have hd := digr' hc.1 hc.2
    rw [hx] at hx'
    rcases List.mem_cons.1 hx' with rfl | hx'
    · exact hd.1
    · rcases List.mem_cons.1 hx' with rfl | hx'
      · exact hd.2
      · exact ih x hx'
/-- Cut of the whole -/
theorem cutP_whole (s : ByteArray) (hs : s.size ≤ 900) : cutP (strOfNums (whole (bytesOf s))) = ([⟨3, s, 0, 0⟩, ⟨4, s, 0, ((1 + (dbl (bytesOf s)).length : Nat) : Int) + 1⟩, ⟨6, ⟨#[]⟩, 0, ((whole (bytesOf s)).length : Int)⟩], 0, 0) := by
  have hb := bytes_ok s
  have hd := dbl_len (bytesOf s)
  have hh := hx_len (bytesOf s)
  rw [bytesOf_length] at hd hh
  have hw : (whole (bytesOf s)).length = (dbl (bytesOf s)).length + (hx (bytesOf s)).length + 5 := by
    unfold whole
    simp
    omega
  have hwb : ∀ x ∈ whole (bytesOf s), 0 ≤ x ∧ x ≤ 255 := by
    intro x hx'
    unfold whole at hx'
    simp only [List.mem_cons, List.mem_append, List.not_mem_nil, or_false] at hx'
    rcases hx' with rfl | h | rfl | rfl | rfl | h | rfl
    all_goals first | decide | exact dbl_ok _ hb x h | exact hx_ok _ hb x h
  unfold cutP
  rw [strOf_size, if_neg (by omega), bytesOf_strOf hwb, cut_whole _ hb]
  simp only [List.map_cons, List.map_nil, Ct.toV, sOf, strOf_bytes]
  simp only [Prod.mk.injEq, List.cons.injEq, S30.mk.injEq, true_and, and_true]
  refine ⟨by omega, by omega, rfl, by omega⟩
def boscagelaw06_TokenTexts.f (_ : Nat) (_ : ByteArray) : Option Bool := some true
attribute [local go_sem high] eqA30
set_option maxHeartbeats 8000000 in
set_option maxRecDepth 100000 in
theorem boscagelaw06_TokenTexts.calls (k : Nat) (a0 : ByteArray) (r : Bool) (w : World) (h : boscagelaw06_TokenTexts.f k a0 = some r) (_hrt : r = true) (hok : Ct.OkW w) :
    Calls Tryd.prog 8 #[.string a0] w fun e w' => e = .returned (.bool r) ∧ Below w.heap.size w w' := by
  injection h with h
  subst h
  have hlive : boscagelaw06_live.f 12 = some true := by kernel_rfl
  have HLv := Aside0.mk hlive
  have HOk := Aside0.mk hok
  clear hlive hok
  by_cases hbig : 900 < a0.size
  · have hd : decide ((900 : Int) < (a0.size : Int)) = true := decide_eq_true (by omega)
    clear hbig
    go_enter Tryd.func8, Tryd.ntmps8
    go_wp2_with fail
    refine (boscagelaw06_live.calls 12 true w HLv.out HOk.out).mono ?_
    rintro e w1 ⟨rfl, hb1⟩
    have HB := Aside0.mk hb1
    clear hb1
    go_wp2
    go_ret
    exact ⟨rfl, HB.out⟩
  · have hd : decide ((900 : Int) < (a0.size : Int)) = false := decide_eq_false (by omega)
    have Hs := Aside0.mk (show a0.size ≤ 900 by omega)
    clear hbig
    go_enter Tryd.func8, Tryd.ntmps8
    go_wp2_with fail
    refine (boscagelaw06_live.calls 12 true w HLv.out HOk.out).mono ?_
    rintro e w1 ⟨rfl, hb1⟩
    have HB := Aside0.mk hb1
    clear hb1
    go_wp2_with fail
    go_loopg [4, 5, 6] (a0.size + 1) (fun gg s4 s5 s6 wr => ∃ (i : Nat), s4 = .string (strOfNums (39 :: dbl ((bytesOf a0).take i))) ∧ s5 = .string (strOfNums (88 :: 39 :: hx ((bytesOf a0).take i))) ∧ s6 = .int .i64 i ∧ Aside0 (i ≤ a0.size) ∧ Aside0 (a0.size + 1 - i ≤ gg) ∧ Aside0 (Below w.heap.size w wr))
    case atStart => exact ⟨0, rfl, rfl, rfl, ⟨Nat.zero_le _⟩, ⟨by omega⟩, HB⟩
    case round =>
      clear HB
      obtain ⟨i, rfl, rfl, rfl, hi, hg, HB⟩ := hrel
      have hdl := dbl_len ((bytesOf a0).take i)
      have hxl := hx_len ((bytesOf a0).take i)
      have htl : ((bytesOf a0).take i).length = i := by rw [List.length_take, bytesOf_length]; have := hi.out; omega
      rw [htl] at hdl hxl
      clear htl
      by_cases hlt : i < a0.size
      · have hd1 : decide (i < a0.size) = true := decide_eq_true hlt
        have p0 : (0 : Int) ≤ (i : Int) := by omega
        have p1 : (i : Int) < (a0.size : Int) := by omega
        have q1 : (i : Int) ≤ (i : Int) + 1 := by omega
        have q2 : (i : Int) + 1 ≤ (a0.size : Int) := by omega
        have hw : IntKind.i64.wrap ((i : Int) + 1) = (i : Int) + 1 := IntWalk.i64_in _ (by have := Hs.out; omega)
        have hr := peekS_range a0 i
        have hpk := peekS_in hlt
        have hext : a0.extract i (i + 1) = strOfNums [peekS a0 i] := Ct.ext_str (part := [peekS a0 i]) (by rw [drop_at hlt]; rfl)
        have htk : (bytesOf a0).take (i + 1) = (bytesOf a0).take i ++ [peekS a0 i] := by
          have hl : i < (bytesOf a0).length := by rw [bytesOf_length]; exact hlt
          rw [List.take_succ_eq_append_getElem hl]
          congr 2
          unfold peekS
          rw [List.getD_eq_getElem?_getD, List.getElem?_eq_getElem hl]; rfl
        have HTK := Aside0.mk htk
        have HLT := Aside0.mk hlt
        clear htk
        generalize hT : (bytesOf a0).take i = T at *
        generalize peekS a0 i = c at *
        have hq16 : IntKind.u8.wrap (c.tdiv 16) = c / 16 := IntWalk.u8_quo _ _ (by omega)
        have hr16 : c.tmod 16 = c % 16 := IntWalk.rem_in _ _ hr.1
        have a1 : (0 : Int) ≤ c / 16 := by omega
        have a2 : c / 16 < 16 := by omega
        have a3 : (0 : Int) ≤ c % 16 := by omega
        have a4 : c % 16 < 16 := by omega
        have btU : ∀ h, (((⟨#[48, 49, 50, 51, 52, 53, 54, 55, 56, 57, 65, 66, 67, 68, 69, 70]⟩ : ByteArray)[(c / 16).toNat]'h).toNat : Int) = hU c := bt_at tabU (c / 16)
        have btL : ∀ h, (((⟨#[48, 49, 50, 51, 52, 53, 54, 55, 56, 57, 97, 98, 99, 100, 101, 102]⟩ : ByteArray)[(c % 16).toNat]'h).toNat : Int) = hL c := bt_at tabL (c % 16)
        have m1 : (9223372036854775807 < (strOfNums (39 :: dbl T)).size + (strOfNums [c]).size) = False := eq_false (by rw [strOf_size, strOf_size]; simp; have := Hs.out; omega)
        have m2 : (9223372036854775807 < (strOfNums (39 :: (dbl T ++ [c]))).size + 1) = False := eq_false (by rw [strOf_size]; simp; have := Hs.out; omega)
        have m3 : (9223372036854775807 < (strOfNums (88 :: 39 :: hx T)).size + (strOfNums [hU c, hL c]).size) = False := eq_false (by rw [strOf_size, strOf_size]; simp; have := Hs.out; omega)
        have b1 : strOfNums (39 :: dbl T) ++ strOfNums [c] = strOfNums (39 :: (dbl T ++ [c])) := strOf_append _ _
        have b2 : strOfNums (39 :: (dbl T ++ [c])) ++ (⟨#[39]⟩ : ByteArray) = strOfNums (39 :: (dbl T ++ [c, 39])) := (strOf_append (39 :: (dbl T ++ [c])) [39]).trans (by simp)
        have b3 : strOfNums (88 :: 39 :: hx T) ++ strOfNums [hU c, hL c] = strOfNums (88 :: 39 :: (hx T ++ [hU c, hL c])) := strOf_append _ _
        have hcv : (convert 34 9 (.slice (some ⟨wr.heap.size, 0, none⟩) 2 2)).run Tryd.prog ((wr.alloc (.cells #[.int .u8 (hU c), .int .u8 (hL c)] 5)).drew) = .ok (.string (strOfNums [hU c, hL c])) ((wr.alloc (.cells #[.int .u8 (hU c), .int .u8 (hL c)] 5)).drew) :=
          own_string (base := 0) (e' := 5) (n := 2) (xs := [hU c, hL c]) Tryd.underlying34 Tryd.underlying5 Tryd.underlying9 ⟨rfl, .inr ⟨wr.heap.size, 2, _, rfl, Nat.zero_le _, heap_alloc_new wr _, Nat.le_refl _, by decide, rfl, rfl⟩⟩
        have HD := Aside0.mk (dbl_snoc c T)
        have HX := Aside0.mk (hx_snoc c T)
        clear hdl hxl hr
        by_cases hq : c = 39
        · have hqe : (c == 39) = true := by rw [hq]; rfl
          have HQ := Aside0.mk hq
          clear hq
          go_upto_region 12 with fail
          go_region
          all_goals go_wp2
          all_goals go_roundg (a0.size - i)
          all_goals first | (case measure => have := hg.out; have := HLT.out; omega) | skip
          all_goals exact ⟨i + 1, by rw [HTK.out, HD.out, if_pos HQ.out, HQ.out], by rw [HTK.out, HX.out], rfl, ⟨HLT.out⟩, ⟨by omega⟩, ⟨below_drew (HB.out.alloc HB.out.size _)⟩⟩
        · have hqe : (c == 39) = false := by simpa using hq
          have HQ := Aside0.mk hq
          clear hq
          go_upto_region 12 with fail
          go_region
          all_goals go_wp2
          all_goals go_roundg (a0.size - i)
          all_goals first | (case measure => have := hg.out; have := HLT.out; omega) | skip
          all_goals exact ⟨i + 1, by rw [HTK.out, HD.out, if_neg HQ.out], by rw [HTK.out, HX.out], rfl, ⟨HLT.out⟩, ⟨by omega⟩, ⟨below_drew (HB.out.alloc HB.out.size _)⟩⟩
      · have hd1 : decide (i < a0.size) = false := decide_eq_false hlt
        have hia : i = a0.size := by have := hi.out; omega
        have htk : (bytesOf a0).take i = bytesOf a0 := by rw [hia, ← bytesOf_length, List.take_length]
        rw [htk]
        rw [htk] at hdl hxl
        have HC := Aside0.mk (cutP_whole a0 Hs.out)
        clear htk hlt
        generalize bytesOf a0 = T at *
        have m1 : (9223372036854775807 < (strOfNums (39 :: dbl T)).size + 1) = False := eq_false (by rw [strOf_size]; simp; have := Hs.out; omega)
        have m2 : (9223372036854775807 < (strOfNums (39 :: (dbl T ++ [39]))).size + (strOfNums (88 :: 39 :: hx T)).size) = False := eq_false (by rw [strOf_size, strOf_size]; simp; have := Hs.out; omega)
        have m3 : (9223372036854775807 < (strOfNums (39 :: (dbl T ++ 39 :: 88 :: 39 :: hx T))).size + 1) = False := eq_false (by rw [strOf_size]; simp; have := Hs.out; omega)
        have b1 : strOfNums (39 :: dbl T) ++ (⟨#[39]⟩ : ByteArray) = strOfNums (39 :: (dbl T ++ [39])) := strOf_append (39 :: dbl T) [39]
        have b2 : strOfNums (39 :: (dbl T ++ [39])) ++ strOfNums (88 :: 39 :: hx T) = strOfNums (39 :: (dbl T ++ 39 :: 88 :: 39 :: hx T)) := (strOf_append _ _).trans (by simp)
        have b3 : strOfNums (39 :: (dbl T ++ 39 :: 88 :: 39 :: hx T)) ++ (⟨#[39]⟩ : ByteArray) = strOfNums (whole T) := by
          refine (strOf_append _ [39]).trans ?_
          congr 1
          unfold whole
          simp
        have hsz : ((strOfNums (39 :: dbl T)).size : Int) = ((1 + (dbl T).length : Nat) : Int) := by rw [strOf_size]; simp; omega
        have hw : IntKind.i64.wrap (((1 + (dbl T).length : Nat) : Int) + 1) = ((1 + (dbl T).length : Nat) : Int) + 1 := IntWalk.i64_in _ (by have := Hs.out; omega)
        have HDL := Aside0.mk (show (dbl T).length ≤ 1800 by have := Hs.out; omega)
        clear hdl hxl hi hg
        go_wp2_with fail
        refine (token_Cut.calls (strOfNums (whole T)) _ _ _ _ (show token_Cut.f (strOfNums (whole T)) = some (_, _, _) from congrArg some HC.out)).mono ?_
        rintro e w2 ⟨v0, rfl, hR, hb2⟩
        have HR := Aside0.mk hR
        have HB2 := Aside0.mk (below_step HB.out hb2)
        clear hR hb2
        obtain ⟨Ao, co, eo⟩ := Kd.R_slice HR.out
        subst eo
        obtain ⟨LL, hLL⟩ : ∃ LL : List S30, LL = [⟨3, a0, 0, 0⟩, ⟨4, a0, 0, ((1 + (dbl T).length : Nat) : Int) + 1⟩, ⟨6, ⟨#[]⟩, 0, ((whole T).length : Int)⟩] := ⟨_, rfl⟩
        rw [← hLL] at HR ⊢
        have hl3 : LL.length = 3 := by rw [hLL]; rfl
        have r0 : rd_T30 LL 0 = ⟨3, a0, 0, 0⟩ := by rw [hLL]; rfl
        have r1 : rd_T30 LL 1 = ⟨4, a0, 0, ((1 + (dbl T).length : Nat) : Int) + 1⟩ := by rw [hLL]; rfl
        obtain ⟨ad, e0, x0, x1, x2, x3⟩ := at_T30 (Kd.R_reads' HR.out).2.2 0 (by decide) (by rw [hl3]; decide)
        cases e0
        obtain ⟨ad', e1, y0, y1, y2, y3⟩ := at_T30 (Kd.R_reads' HR.out).2.2 1 (by decide) (by rw [hl3]; decide)
        obtain rfl : ad = ad' := by injection e1
        rw [r0] at x0 x1 x2 x3
        rw [r1] at y0 y1 y2 y3
        simp only [show (0 : Int).toNat = 0 from rfl, Nat.zero_mul, Go.Addr.add, ↓reduceIte] at x0 x1 x2 x3
        simp only [show (1 : Int).toNat = 1 from rfl, Nat.reduceMul, Nat.reduceEqDiff, Go.Addr.add, ↓reduceIte] at y0 y1 y2 y3
        clear e1 r0 r1
        clear hLL
        rw [hl3]
        have hwf : (1 + ((dbl T).length : Int) + 1 == wrap64 (1 + ((dbl T).length : Int) + 1)) = true := by
          rw [wrap_id (by omega) (by have := HDL.out; omega)]
          simp
        have HWF := Aside0.mk hwf
        clear hwf
        go_wp2
        go_ret
        exact ⟨congrArg (fun b => Ending.returned (.bool b)) HWF.out, HB2.out⟩
theorem tokenTexts_pure (a0 : ByteArray) : ∃ k, boscagelaw06_TokenTexts.f k a0 = some true := ⟨0, rfl⟩
end Go.Proofs.YtffaibjiiiochaaDoor.Ht
