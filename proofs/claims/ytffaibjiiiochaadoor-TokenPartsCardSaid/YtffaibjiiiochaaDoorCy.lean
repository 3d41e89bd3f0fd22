/- The cutting methods of layer 6 (part). -/
import Derived.Test.YtffaibjiiiochaaDoorCt
import Derived.Test.YtffaibjiiiochaaDoorCb
import Derived.BigRegion
set_option linter.unusedVariables false
set_option linter.unusedSimpArgs false
namespace Go.Proofs.YtffaibjiiiochaaDoor.Ct
open Go.RowKit Go.Proofs.YtffaibjiiiochaaDoorW.PrintWords Go.Proofs.YtffaibjiiiochaaDoorW.PrintLast Go.Proofs.YtffaibjiiiochaaDoorW.PrintMore Go.Proofs.YtffaibjiiiochaaDoor.Tk
/-- a builder at b, its buffer at B or behind -/
structure Bk (B b : Nat) (bs : List Value) (w : World) : Prop where
  hb : ∃ p v, (p = .pointer none ∨ p = .pointer (some ⟨b, 0, none⟩)) ∧ w.heap[b]? = some (.cells #[p, v] 55 (0, 0)) ∧ w.ownsRowF B 5 1 v bs.length bs
  lt : b < B
/-- all below but one block stand -/
structure Bt (B b : Nat) (w w' : World) : Prop where
  kp : ∀ k, k < B → k ≠ b → w'.heap[k]? = w.heap[k]?
  sz : w.heap.size ≤ w'.heap.size
  st : w'.os = w.os ∧ w'.tape = w.tape ∧ w'.output = w.output
theorem Bt.refl (B b : Nat) (w : World) : Bt B b w w := ⟨fun _ _ _ => rfl, Nat.le_refl _, rfl, rfl, rfl⟩
theorem Bt.trans {B b : Nat} {w w1 w2 : World} (h : Bt B b w w1) (k : Bt B b w1 w2) : Bt B b w w2 := ⟨fun i h1 h2 => (k.kp i h1 h2).trans (h.kp i h1 h2), Nat.le_trans h.sz k.sz, k.st.1.trans h.st.1, k.st.2.1.trans h.st.2.1, k.st.2.2.trans h.st.2.2⟩
theorem Bt.drewN {B b : Nat} {w w1 : World} (h : Bt B b w w1) (n : Nat) : Bt B b w (w1.drewN n) := ⟨h.kp, h.sz, h.st⟩
theorem Bk.drewN {B b : Nat} {bs : List Value} {w : World} (h : Bk B b bs w) (n : Nat) : Bk B b bs (w.drewN n) := ⟨h.hb, h.lt⟩
theorem copy2 (B b : Nat) (bs : List Value) (w : World) (h : Bk B b bs w) :
    Calls Tryd.prog 52 #[.pointer (some ⟨b, 0, none⟩)] w fun e w' => e = .returned (.tuple #[]) ∧ (∃ v, w'.heap[b]? = some (.cells #[.pointer (some ⟨b, 0, none⟩), v] 55 (0, 0)) ∧ w'.ownsRowF B 5 1 v bs.length bs) ∧ Bt B b w w' := by
  obtain ⟨⟨p, v, hp, hb, ho⟩, hlt⟩ := h
  rcases hp with rfl | rfl
  · refine (Bld.copyCheck_fresh b w (by rw [Lib.cell_of_heap hb]; rfl) (by simp [World.shape?, hb]) (Lib.frozen_of_heap hb 0)).mono ?_
    rintro e w' ⟨rfl, rfl⟩
    refine ⟨rfl, ⟨v, by simp [World.setCell, Array.getElem?_modify, hb], ?_⟩, fun k _ hne => Below.heap_setCell _ _ _ _ (by exact hne), by simp [World.setCell], rfl, rfl, rfl⟩
    refine ho.kept (row := some b) ⟨rfl, rfl, rfl, by simp [World.setCell], fun k _ hk => Below.heap_setCell _ _ _ _ (fun e => hk (by simp [e]))⟩ (.inr ?_)
    intro e
    have := ho.lt b e
    omega
  · refine (Bld.copyCheck_used b w (by rw [Lib.cell_of_heap hb]; rfl)).mono ?_
    rintro e w' ⟨rfl, rfl⟩
    exact ⟨rfl, ⟨v, hb, ho⟩, Bt.refl B b _⟩
set_option maxHeartbeats 2000000 in
set_option maxRecDepth 100000 in
theorem WriteByte2 (B b : Nat) (bs : List Value) (c : Int) (w : World) (h : Bk B b bs w) (hlen : bs.length + 1 ≤ 140737488355328) (hBw : B ≤ w.heap.size) :
    Calls Tryd.prog 45 #[.pointer (some ⟨b, 0, none⟩), .int .u8 c] w fun e w' => e = .returned .nilIface ∧ Bk B b (bs ++ [.int .u8 c]) w' ∧ Bt B b w w' := by
  obtain ⟨i0, hi, hz0, hz1, hz2⟩ := info_parts Bld.infoByte
  have hlt0 := h.lt
  go_enter Tryd.func45, Tryd.ntmps45
  go_wp2_with (go_at_call 52; refine (copy2 B b bs _ h).mono ?_)
  rintro e w1 ⟨rfl, ⟨v, hbk, hown⟩, hb1⟩
  have c0 : w1.cell? ⟨b, 0, none⟩ = some (.pointer (some ⟨b, 0, none⟩)) := by rw [Lib.cell_of_heap hbk]; rfl
  have c1 : w1.cell? ⟨b, 1, none⟩ = some v := by rw [Lib.cell_of_heap hbk]; rfl
  have hne : v.ownBlock ≠ some b := fun e => by have := hown.lt b e; omega
  have hs1 := hb1.sz
  go_wp2_with (at_builtin; refine wpList_append_ownF _ rfl _ _ 34 rfl B 5 i0 (.int .u8 0) 1 1 Tryd.underlying34 hi hz0 hz1 hz2 rfl (by decide) _ _ _ rfl (hown.alloc _) ⟨w1.heap.size, 0, none⟩ 1 1 [.int .u8 c] rfl rfl ?c1 ?c2 ?c3 ?c4 ?c5 ?_)
  case c1 =>
    intro j u hj
    match j, hj with
    | 0, hj => simp at hj; subst hj; simp [Addr.add]
  case c2 => intro u hu; simp at hu; subst hu; rfl
  case c3 => unfold maxLen; omega
  case c4 => omega
  case c5 => simp; omega
  intro v' w2 hown' hgrow _
  have hlt : b < w1.heap.size := by
    rcases Nat.lt_or_ge b w1.heap.size with h' | h'
    · exact h'
    · simp [Array.getElem?_eq_none h'] at hbk
  have hb2 : w2.heap[b]? = some (.cells #[.pointer (some ⟨b, 0, none⟩), v] 55 (0, 0)) := by
    rw [hgrow.block b (by simp; omega) (fun e => hne e.symm), Lib.alloc_old w1 _ b hlt]
    exact hbk
  have d0 : w2.cell? ⟨b, 0, none⟩ = some (.pointer (some ⟨b, 0, none⟩)) := by rw [Lib.cell_of_heap hb2]; rfl
  have d1 : w2.cell? ⟨b, 1, none⟩ = some v := by rw [Lib.cell_of_heap hb2]; rfl
  have f1 : w2.frozen? ⟨b, 1, none⟩ = false := Lib.frozen_of_heap hb2 1
  obtain ⟨g, cap, rfl⟩ : ∃ g cap, v' = .slice (some ⟨g, 0, none⟩) (bs.length + 1) cap := by
    rcases hown'.2 with ⟨_, h0⟩ | ⟨g, cap, cur, fz, hv, _⟩
    · omega
    · exact ⟨g, cap, hv⟩
  have hgB : B ≤ g := (hown'.lt g rfl).1
  go_wp2
  go_ret
  have hsz2 : w1.heap.size + 1 ≤ w2.heap.size := by have := hgrow.size; simpa using this
  refine ⟨rfl, ⟨⟨_, _, .inr rfl, blk_put hb2 1 _ rfl, ?_⟩, hlt0⟩, ?_⟩
  · have e : (bs ++ [Value.int .u8 c]).length = bs.length + 1 := by simp
    rw [e]
    refine hown'.kept (row := some b) ⟨rfl, rfl, rfl, by simp [World.setCell], fun k _ hk => Below.heap_setCell _ _ _ _ (fun e => hk (by simp [e]))⟩ (.inr ?_)
    intro e
    have : g = b := by simpa [Value.ownBlock] using e
    omega
  · refine hb1.trans ⟨fun k hk hkb => ?_, ?_, hgrow.os, hgrow.tape, hgrow.output⟩
    · refine (Below.heap_setCell _ _ _ _ (by exact hkb)).trans ((hgrow.block k (by simp; omega) ?_).trans (Lib.alloc_old w1 _ k (by omega)))
      intro e
      have := (hown.lt k e.symm).1
      omega
    · simp [World.setCell]; omega
/-- digits two by two -/
def pairsT : List Int → Option (List Int)
  | [] => some []
  | [_] => none
  | c :: d :: r => if 0 ≤ hex c ∧ 0 ≤ hex d then (pairsT r).map fun p => (16 * hex c + hex d) :: p else none
theorem hex39 : ¬ 0 ≤ hex 39 := by decide
theorem blobT_none : ∀ L : List Int, (∀ x ∈ L, x ≠ 39) → blobT L = none
  | [], _ => rfl
  | [c], h => by rw [blobT, if_neg (h c (by simp))]
  | c :: d :: r, h => by
    rw [blobT, if_neg (h c (by simp)), blobT_none r (fun x hx => h x (by simp [hx]))]
    split <;> rfl
theorem blobT_at : ∀ (P R : List Int), (∀ x ∈ P, x ≠ 39) → blobT (P ++ 39 :: R) = (pairsT P).map fun p => (p, R)
  | [], R, _ => by cases R <;> rfl
  | [c], R, h => by
    show blobT (c :: 39 :: R) = none
    rw [blobT, if_neg (h c (by simp)), if_neg (fun x => hex39 x.2)]
  | c :: d :: r, R, h => by
    show blobT (c :: d :: (r ++ 39 :: R)) = _
    rw [blobT, if_neg (h c (by simp)), pairsT, blobT_at r R (fun x hx => h x (by simp [hx]))]
    split
    · cases pairsT r <;> rfl
    · rfl
theorem pairsT_odd : ∀ P : List Int, P.length % 2 = 1 → pairsT P = none
  | [], h => by simp at h
  | [_], _ => rfl
  | c :: d :: r, h => by
    rw [pairsT, pairsT_odd r (by simp at h; omega)]
    split <;> rfl
theorem idx_39 : ∀ l : List UInt8, (Lib.indexByte l 39 = -1 ∧ ∀ x ∈ l.map (fun b => (b.toNat : Int)), x ≠ 39) ∨ ∃ n : Nat, Lib.indexByte l 39 = n ∧ ∃ P R, l.map (fun b => (b.toNat : Int)) = P ++ 39 :: R ∧ P.length = n ∧ ∀ x ∈ P, x ≠ 39
  | [] => .inl ⟨rfl, by simp⟩
  | b :: l => by
    by_cases hb : b = 39
    · subst hb
      exact .inr ⟨0, rfl, [], l.map (fun b => (b.toNat : Int)), rfl, rfl, by simp⟩
    · have h1 : (b == 39) = false := by simpa using hb
      have h2 : ¬ (b.toNat : Int) = 39 := by
        intro h
        have h3 : b.toNat = (39 : UInt8).toNat := by show b.toNat = 39; omega
        exact hb (UInt8.toNat_inj.1 h3)
      rw [List.map_cons, Lib.indexByte, h1]
      rcases idx_39 l with ⟨e1, e2⟩ | ⟨n, e1, P, R, e2, e3, e4⟩
      · refine .inl ⟨by rw [e1]; rfl, ?_⟩
        intro x hx
        rcases List.mem_cons.1 hx with rfl | hx
        · exact h2
        · exact e2 x hx
      · refine .inr ⟨n + 1, ?_, (b.toNat : Int) :: P, R, by rw [e2]; rfl, by simp [e3], ?_⟩
        · have : ((n : Int) == -1) = false := by simp <;> omega
          rw [e1, this]; rfl
        · intro x hx
          rcases List.mem_cons.1 hx with rfl | hx
          · exact h2
          · exact e4 x hx
def digits : ByteArray := ⟨#[48, 49, 50, 51, 52, 53, 54, 55, 56, 57, 97, 98, 99, 100, 101, 102]⟩
theorem hexk : ∀ n : Fin 256, Lib.indexByte digits.data.toList (Go.bits .or .u8 (n.val : Int) 32).toNat.toUInt8 < 0 ∨ n.val < 48 → ¬ 0 ≤ hex (n.val : Int) := by decide +kernel
theorem hexk2 : ∀ n : Fin 256, ¬ Lib.indexByte digits.data.toList (Go.bits .or .u8 (n.val : Int) 32).toNat.toUInt8 < 0 → ¬ n.val < 48 → hex (n.val : Int) = Lib.indexByte digits.data.toList (Go.bits .or .u8 (n.val : Int) 32).toNat.toUInt8 ∧ 0 ≤ hex (n.val : Int) ∧ hex (n.val : Int) ≤ 15 := by decide +kernel
/-- bytes written down as numbers -/
def ints (l : List UInt8) : List Int := l.map fun b => (b.toNat : Int)
def aheadP (l : List UInt8) (o : Option (List Int)) : Option (List Int) := o.map fun p => ints l ++ p
theorem aheadP_snoc (l : List UInt8) (c : UInt8) (o : Option (List Int)) : aheadP l (o.map fun p => (c.toNat : Int) :: p) = aheadP (l ++ [c]) o := by
  cases o <;> simp [aheadP, ints]
theorem conv_bytes (W : World) (X : ByteArray) (P : List Int) (hXl : (X.data.toList.map fun b => (b.toNat : Int)) = P) :
    ∃ cap W2, (convert 9 34 (.string X)).run Tryd.prog W.drew = .ok (.slice (some ⟨W.heap.size, 0, none⟩) X.size cap) W2 ∧ (∀ k, k < W.heap.size → W2.heap[k]? = W.heap[k]?) ∧ W2.heap.size = W.heap.size + 1 ∧ (W2.os = W.os ∧ W2.tape = W.tape ∧ W2.output = W.output) ∧ ∀ i, i < X.size → W2.cell? ⟨W.heap.size, i, none⟩ = some (.int .u8 (P.getD i 0)) := by
  refine ⟨grownCap W.drew X.size 0 5, W.drew.drew.alloc (.cells (bytesRow X (grownCap W.drew X.size 0 5)) 5 ((bytesRow X (grownCap W.drew X.size 0 5)).size, (bytesRow X (grownCap W.drew X.size 0 5)).size + 1)), run_bytes_of_string W.drew 9 34 5 X Tryd.underlying9 Tryd.underlying34 Tryd.underlying5, fun k hk => Lib.alloc_old W.drew.drew _ k hk, by simp, ⟨rfl, rfl, rfl⟩, ?_⟩
  intro i hi
  have hh := heap_alloc_new W.drew.drew (.cells (bytesRow X (grownCap W.drew X.size 0 5)) 5 ((bytesRow X (grownCap W.drew X.size 0 5)).size, (bytesRow X (grownCap W.drew X.size 0 5)).size + 1))
  refine (Lib.cell_of_heap hh i).trans ((bytesRow_at _ _ i hi).trans ?_)
  have hj : i < X.data.toList.length := by simpa using hi
  rw [← hXl, List.getD_eq_getElem?_getD, List.getElem?_map, List.getElem?_eq_getElem hj]
  rfl
theorem Bk.f {Bf B b : Nat} {bs : List Value} {w : World} (h : Bk Bf b bs w) (hB : B ≤ b) : Lib.IsBuilderF 55 5 B b bs w := by
  obtain ⟨⟨p, v, hp, hb, ho⟩, hlt⟩ := h
  have hne : v.ownBlock ≠ some b := fun e => by have := ho.lt b e; omega
  have ho2 : w.ownsRowF B 5 1 v bs.length bs := by
    refine ⟨ho.1, ?_⟩
    rcases ho.2 with h0 | ⟨g, cap, cur, fz, hv, hBg, r⟩
    · exact .inl h0
    · exact .inr ⟨g, cap, cur, fz, hv, by omega, r⟩
  rcases hp with rfl | rfl
  · exact .inl ⟨hB, v, hb, ho2, hne⟩
  · exact .inr ⟨hB, v, hb, ho2, hne⟩
theorem Bt.low {Bf b : Nat} {w w' : World} (h : Bt Bf b w w') {B : Nat} (h1 : B ≤ b) (h2 : B ≤ Bf) : Below B w w' := ⟨h.st.1, h.st.2.1, h.st.2.2, h.sz, fun k hk => h.kp k (by omega) (by omega)⟩
theorem getD_peek {s : ByteArray} {k i : Nat} {P X : List Int} (h : (bytesOf s).drop k = P ++ X) (hi : i < P.length) : P.getD i 0 = peekS s (k + i) := by
  unfold peekS
  have e : (P ++ X)[i]? = P[i]? := List.getElem?_append_left hi
  rw [← h, List.getElem?_drop] at e
  rw [List.getD_eq_getElem?_getD, List.getD_eq_getElem?_getD, e]
theorem pairsT_bad1 {c : Int} {r : List Int} (h : ¬ 0 ≤ hex c) : pairsT (c :: r) = none := by
  cases r with
  | nil => rfl
  | cons d r => rw [pairsT, if_neg (fun x => h x.1)]
theorem pairsT_bad2 {c d : Int} {r : List Int} (h : ¬ 0 ≤ hex d) : pairsT (c :: d :: r) = none := by rw [pairsT, if_neg (fun x => h x.2)]
theorem drop_getD {P : List Int} {i : Nat} (h : i < P.length) : P.drop i = P.getD i 0 :: P.drop (i + 1) := by
  rw [List.drop_eq_getElem_cons h, List.getD_eq_getElem?_getD, List.getElem?_eq_getElem h]; rfl
theorem or16 : ∀ a b : Fin 16, Go.bits .or .u8 ((a.val : Int) * 16) (b.val : Int) = (((UInt8.ofNat (16 * a.val + b.val)).toNat : Nat) : Int) ∧ (UInt8.ofNat (16 * a.val + b.val)).toNat = 16 * a.val + b.val := by decide +kernel
theorem or16' {a b : Int} (h0 : 0 ≤ a) (h1 : a ≤ 15) (h2 : 0 ≤ b) (h3 : b ≤ 15) : ∃ c : UInt8, Go.bits .or .u8 (a * 16) b = ((c.toNat : Nat) : Int) ∧ (c.toNat : Int) = 16 * a + b := by
  obtain ⟨n, rfl⟩ : ∃ n : Nat, a = n := ⟨a.toNat, by omega⟩
  obtain ⟨m, rfl⟩ : ∃ m : Nat, b = m := ⟨b.toNat, by omega⟩
  have h := or16 ⟨n, by omega⟩ ⟨m, by omega⟩
  exact ⟨UInt8.ofNat (16 * n + m), h.1, by have := h.2; simp only at this ⊢; omega⟩
set_option maxHeartbeats 8000000 in
set_option maxRecDepth 100000 in
theorem blob (B g : Nat) (s : ByteArray) (at0 : Nat) (v : Value) (ts : List TokV) (w : World) (hB : B ≤ g) (R : Ctr w g s at0 v) (O : Own B w v ts) (hs : s.size ≤ 1000000) (ha : at0 + 2 ≤ s.size) (hl : ts.length ≤ 1000000) (hBw : B ≤ w.heap.size) :
    Calls Tryd.prog 30 #[.pointer (some ⟨g, 0, none⟩)] w fun e w' => Gave B g s at0 ts w ((blobT ((bytesOf s).drop (at0 + 2))).map fun p => ((4, p.1, 0), p.2)) e w' := by
  have HR := Aside0.mk R
  have HO := Aside0.mk O
  have HR0 := Aside0.mk R
  have Hs := Aside0.mk hs
  have Ha := Aside0.mk ha
  have HB := Aside0.mk hB
  have HL := Aside0.mk hl
  have HW := Aside0.mk hBw
  obtain ⟨c0, c1, c2, f0, f1, f2⟩ := R.cells
  have hw : IntKind.i64.wrap ((at0 : Int) + 2) = (at0 : Int) + 2 := IntWalk.i64_in _ (by omega)
  have p0 : (0 : Int) ≤ (at0 : Int) + 2 := by omega
  have p1 : (at0 : Int) + 2 ≤ (s.size : Int) := by omega
  have lg : g < w.heap.size := World.block_lt_of_cell? w _ c0
  have gn : g ≠ w.heap.size := by omega
  clear R O hs ha hB hl hBw
  go_enter Tryd.func30, Tryd.ntmps30
  go_wp2_with fail
  obtain ⟨n, hn⟩ : ∃ n, n = Lib.indexByte (s.extract (at0 + 2) s.size).data.toList 39 := ⟨_, rfl⟩
  go_quiet ((go_at_call 29; refine (Tryd.strings_IndexByte _ _ _).mono ?_; rintro e w2 ⟨rfl, rfl⟩; exact ⟨congrArg (fun x => Ending.returned (.int .i64 x)) hn.symm, _, rfl⟩))
  have hix := idx_39 (s.extract (at0 + 2) s.size).data.toList
  rw [← hn, ext_bytes] at hix
  clear hn
  rcases hix with ⟨rfl, hno⟩ | ⟨m, rfl, P, R, hPR, hPl, hP⟩
  · have hE : blobT ((bytesOf s).drop (at0 + 2)) = none := blobT_none _ hno
    have HE := Aside0.mk hE
    clear hE hno
    go_wp2
    go_ret
    refine ⟨pw_below_drewN (Below.refl B w) _, ?_⟩
    rw [HE.out]
    rfl
  · have hE : blobT ((bytesOf s).drop (at0 + 2)) = (pairsT P).map fun p => (p, R) := by rw [hPR]; exact blobT_at P R hP
    have HE := Aside0.mk hE
    have HPR := Aside0.mk hPR
    have HPl := Aside0.mk hPl
    clear hE hP
    by_cases hodd : m % 2 = 1
    · have hr : ((m : Int) % 2 == 1) = true := by simp; omega
      have HO2 := Aside0.mk (pairsT_odd P (by rw [hPl]; exact hodd))
      clear hodd hPl hPR
      go_wp2
      go_ret
      refine ⟨pw_below_drewN (Below.refl B w) _, ?_⟩
      rw [HE.out, HO2.out]
      rfl
    · have hr : ((m : Int) % 2 == 1) = false := by simp; omega
      have hms : at0 + 2 + m + 1 + R.length = s.size := by
        have := congrArg List.length hPR
        rw [List.length_drop, bytesOf_length, List.length_append, hPl, List.length_cons] at this
        have := Ha.out
        omega
      have HM := Aside0.mk hms
      have HEv : Aside0 (m % 2 = 0) := ⟨by omega⟩
      have q0 : (at0 : Int) + 2 ≤ (at0 : Int) + 2 + (m : Int) := by omega
      have q1 : (at0 : Int) + 2 + (m : Int) ≤ (s.size : Int) := by omega
      have q2 : (0 : Int) ≤ (at0 : Int) + 2 + (m : Int) := by omega
      have hw2 : IntKind.i64.wrap ((at0 : Int) + 2 + (m : Int)) = (at0 : Int) + 2 + (m : Int) := IntWalk.i64_in _ (by have := Hs.out; omega)
      clear hodd hPl hPR hms
      go_wp2_with fail
      have HW0 : Aside0 (Lib.IsBuilderF 55 5 w.heap.size w.heap.size [] ((w.drewN nq).alloc (.cells #[.pointer none, .slice none 0 0] 55))) := ⟨Lib.IsBuilderF.of (Lib.fresh_isBuilder 55 5 (w.drewN nq))⟩
      have HX : Aside0 (Bx g w.heap.size s v w at0 [] ((w.drewN nq).alloc (.cells #[.pointer none, .slice none 0 0] 55))) := ⟨Bx.start HR.out nq⟩
      have hsz : ((w.drewN nq).alloc (.cells #[.pointer none, .slice none 0 0] 55)).heap.size = w.heap.size + 1 := by simp
      have HN1 : Aside0 (((w.drewN nq).alloc (.cells #[.pointer none, .slice none 0 0] 55)).heap[w.heap.size]? = some (.cells #[.pointer none, .slice none 0 0] 55 (0, 0))) := ⟨heap_alloc_new (w.drewN nq) _⟩
      generalize (w.drewN nq).alloc (.cells #[.pointer none, .slice none 0 0] 55) = W at *
      clear c0 c1 c2 f0 f1 f2
      obtain ⟨c0, c1, c2, f0, f1, f2⟩ := HX.out.ct.cells
      have hXs : (s.extract (at0 + 2) (at0 + 2 + m)).size = m := by rw [ByteArray.size_extract]; omega
      have hXl : ((s.extract (at0 + 2) (at0 + 2 + m)).data.toList.map fun b => (b.toNat : Int)) = P := by
        have := ext_part (s := s) (k := at0 + 2) (part := P) (rest := 39 :: R) HPR.out
        rw [HPl.out] at this
        exact this
      obtain ⟨cap, W2, hcv, hold, hs2, hst2, hby⟩ := conv_bytes W _ P hXl
      rw [hXs] at hcv hby
      clear hXs hXl
      go_region
      have hbs : W2.heap.size = w.heap.size + 2 := by omega
      have HBk : Aside0 (Bk W2.heap.size w.heap.size (Lib.byteCells []) W2) := ⟨⟨⟨_, _, .inl rfl, (hold _ (by omega)).trans HN1.out, World.ownsRowF_nil _ _ _ _⟩, by omega⟩⟩
      have HX2 : Aside0 (Bx g w.heap.size s v w at0 [] W2) := ⟨HX.out.step (HBk.out.f (Nat.le_refl _)) ⟨hst2.1, hst2.2.1, hst2.2.2, by omega, fun k hk => hold k (by omega)⟩⟩
      have HBs := Aside0.mk hbs
      have HBy := Aside0.mk hby
      have HWs := Aside0.mk hsz
      clear hold hst2 hs2 hby hcv HX HN1 c0 c1 c2 f0 f1 f2 hbs HW0 hr q0 q1 q2 p0 p1 hw2 hw
      go_wp2_with fail
      go_loopg [6, 51] (m + 1) (fun gg s6 s51 wr => ∃ (i : Nat) (hf : Int) (l : List UInt8), s6 = .int .u8 hf ∧ s51 = .int .i64 i ∧ Aside0 (0 ≤ hf ∧ hf ≤ 15) ∧ Aside0 (i ≤ m) ∧ Aside0 (m + 1 - i ≤ gg) ∧ Aside0 (l.length ≤ i) ∧ Aside0 (pairsT P = aheadP l (pairsT (P.drop (i - i % 2)))) ∧ Aside0 (i % 2 = 1 → hf = hex (P.getD (i - 1) 0) ∧ 0 ≤ hex (P.getD (i - 1) 0)) ∧ Aside0 (Bk W2.heap.size w.heap.size (Lib.byteCells l) wr) ∧ Aside0 (Bt W2.heap.size w.heap.size W2 wr))
      case atStart => exact ⟨0, 0, [], rfl, rfl, ⟨by decide⟩, ⟨Nat.zero_le _⟩, ⟨by omega⟩, ⟨Nat.zero_le _⟩, ⟨by simp [aheadP, ints]⟩, ⟨fun h => by cases h⟩, HBk, ⟨Bt.refl _ _ _⟩⟩
      case round =>
        clear HBk
        obtain ⟨i, hf, l, rfl, rfl, hhf, him, hg, hll, he, hodd, HK, HT⟩ := hrel
        by_cases hlt : i < m
        · have hd1 : decide (i < m) = true := decide_eq_true hlt
          have r0 : (0 : Int) ≤ (i : Int) := by omega
          have r1 : (i : Int) < (m : Int) := by omega
          have hcell : wr.cell? ⟨W.heap.size, i, none⟩ = some (.int .u8 (P.getD i 0)) := (World.cell?_of_block (HT.out.kp W.heap.size (by have := HBs.out; have := HWs.out; omega) (by have := HWs.out; omega))).trans (HBy.out i hlt)
          have hd := getD_peek HPR.out (by rw [HPl.out]; exact hlt)
          have hrg := peekS_range s (at0 + 2 + i)
          rw [← hd] at hrg
          obtain ⟨dn, hdn⟩ : ∃ dn : Fin 256, P.getD i 0 = (dn.val : Int) := ⟨⟨(P.getD i 0).toNat, by omega⟩, by show _ = (((P.getD i 0).toNat : Nat) : Int); omega⟩
          have hx1 := hexk dn
          have hx2 := hexk2 dn
          have hdr := drop_getD (P := P) (i := i) (by rw [HPl.out]; exact hlt)
          rw [hdn] at hcell hdr
          rw [HWs.out] at hcell
          clear hd hrg
          have HX1 := Aside0.mk hx1
          have HX3 := Aside0.mk hx2
          have HDN := Aside0.mk hdn
          have HDR := Aside0.mk hdr
          have HLT := Aside0.mk hlt
          clear hx1 hx2 hdn hdr hlt
          go_wp2_with fail
          refine (Tryd.strings_IndexByte _ _ _).mono ?_
          rintro e w1 ⟨rfl, rfl⟩
          obtain ⟨k, hk⟩ : ∃ k, k = Lib.indexByte digits.data.toList (Go.bits .or .u8 (dn.val : Int) 32).toNat.toUInt8 := ⟨_, rfl⟩
          rw [← hk] at HX1 HX3
          rw [show Lib.indexByte (ByteArray.mk #[48, 49, 50, 51, 52, 53, 54, 55, 56, 57, 97, 98, 99, 100, 101, 102]).data.toList (Go.bits .or .u8 (dn.val : Int) 32).toNat.toUInt8 = k from hk.symm]
          clear hk
          have hw1 : IntKind.i64.wrap ((i : Int) + 1) = (i : Int) + 1 := IntWalk.i64_in _ (by have := Hs.out; have := HM.out; omega)
          by_cases hbad : k < 0 ∨ dn.val < 48
          · have HF : Aside0 (pairsT P = none) := by
              refine ⟨?_⟩
              have hb : ¬ 0 ≤ hex (dn.val : Int) := by have := HX1.out hbad; omega
              rcases Nat.mod_two_eq_zero_or_one i with h2 | h2
              · rw [he.out, h2, Nat.sub_zero, HDR.out, pairsT_bad1 hb]; rfl
              · have h1 : i - 1 < P.length := by have := HPl.out; have := HLT.out; omega
                have h3 : i - 1 + 1 = i := by omega
                rw [he.out, h2, drop_getD h1, h3, HDR.out, pairsT_bad2 hb]; rfl
            have fin : ∀ w' : World, Below B w w' → ∀ e, e = .returned (.bool false) → Gave B g s at0 ts w ((blobT ((bytesOf s).drop (at0 + 2))).map fun p => ((4, p.1, 0), p.2)) e w' := fun w' hb e he => by
              refine ⟨hb, ?_⟩
              rw [HE.out, HF.out]
              exact he
            have HFin := Aside0.mk fin
            clear fin
            by_cases hk0 : k < 0
            · have e1 : decide (k < 0) = true := decide_eq_true hk0
              clear hbad hk0
              go_wp2
              go_ret
              exact HFin.out _ ((HX2.out.step (HK.out.f (Nat.le_refl _)) (HT.out.low (Nat.le_refl _) (by have := HBs.out; omega))).below HB.out) _ rfl
            · have e1 : decide (k < 0) = false := decide_eq_false hk0
              have e2 : decide ((dn.val : Int) < 48) = true := decide_eq_true (by omega)
              clear hbad hk0
              go_wp2
              go_ret
              exact HFin.out _ ((HX2.out.step (HK.out.f (Nat.le_refl _)) (HT.out.low (Nat.le_refl _) (by have := HBs.out; omega))).below HB.out) _ rfl
          · have e1 : decide (k < 0) = false := decide_eq_false (by omega)
            have e2 : decide ((dn.val : Int) < 48) = false := decide_eq_false (by omega)
            obtain ⟨hk1, hk2, hk3⟩ := HX3.out (by omega) (by omega)
            rw [hk1] at hk2 hk3
            have HK1 := Aside0.mk hk1
            clear hbad hk1
            rcases Nat.mod_two_eq_zero_or_one i with h2 | h2
            · have hi2 : ((i : Int) % 2 == 1) = false := by simp; omega
              have hk256 : k % 256 = k := by omega
              have H2 := Aside0.mk h2
              have HK23 : Aside0 (0 ≤ k ∧ k ≤ 15) := ⟨⟨hk2, hk3⟩⟩
              clear h2 hk2 hk3
              go_wp2
              go_roundg (m - i)
              case measure => have := hg.out; have := HLT.out; omega
              case rel =>
                refine ⟨i + 1, k, l, rfl, rfl, HK23, ⟨by have := HLT.out; omega⟩, ⟨by omega⟩, ⟨by have := hll.out; omega⟩, ⟨?_⟩, ⟨fun _ => ?_⟩, HK, HT⟩
                · rw [he.out, show (i + 1) - (i + 1) % 2 = i - i % 2 by have := H2.out; omega]
                · rw [Nat.add_sub_cancel, HDN.out, HK1.out]; exact ⟨rfl, HK23.out.1⟩
            · have hi2 : ((i : Int) % 2 == 1) = true := by simp; omega
              have H2 := Aside0.mk h2
              have hhf' := hhf.out
              have hk256 : k % 256 = k := by omega
              have hf256 : hf * 16 % 256 = hf * 16 := by omega
              obtain ⟨c, hc1, hc2⟩ := or16' hhf'.1 hhf'.2 hk2 hk3
              have HC2 := Aside0.mk hc2
              have HK23 : Aside0 (0 ≤ k ∧ k ≤ 15) := ⟨⟨hk2, hk3⟩⟩
              clear h2 hc2 hk2 hk3 hhf'
              go_wp2_with fail
              refine (WriteByte2 W2.heap.size w.heap.size (Lib.byteCells l) _ _ HK.out (by rw [Lib.byteCells_length]; have := hll.out; have := him.out; have := HM.out; have := Hs.out; omega) HT.out.sz).mono ?_
              rintro e w4 ⟨rfl, hk4, ht4⟩
              rw [bytes_snoc] at hk4
              go_wp2
              go_roundg (m - i)
              case measure => have := hg.out; have := HLT.out; omega
              case rel =>
                have h1 : i - 1 < P.length := by have := HPl.out; have := HLT.out; omega
                have h3 : i - 1 + 1 = i := by have := H2.out; omega
                obtain ⟨ho1, ho2⟩ := hodd.out H2.out
                refine ⟨i + 1, k, l ++ [c], rfl, rfl, HK23, ⟨by have := HLT.out; omega⟩, ⟨by omega⟩, ⟨by have := hll.out; simp; omega⟩, ⟨?_⟩, ⟨fun h => ?_⟩, ⟨hk4⟩, ⟨HT.out.trans ht4⟩⟩
                · rw [he.out, H2.out, drop_getD h1, h3, HDR.out, show (i + 1) - (i + 1) % 2 = i + 1 by have := H2.out; omega, pairsT, if_pos ⟨ho2, by rw [HK1.out]; exact HK23.out.1⟩, ← ho1, HK1.out, ← HC2.out, aheadP_snoc]
                · have := H2.out; omega
        · have hd1 : decide (i < m) = false := decide_eq_false hlt
          have him2 : i = m := by have := him.out; omega
          have HF : Aside0 (pairsT P = some (ints l)) := by
            refine ⟨?_⟩
            rw [he.out, him2, HEv.out, Nat.sub_zero, List.drop_eq_nil_of_le (by have := HPl.out; omega)]
            simp [pairsT, aheadP]
          have HX3 : Aside0 (Bx g w.heap.size s v w at0 l wr) := ⟨HX2.out.step (HK.out.f (Nat.le_refl _)) (HT.out.low (Nat.le_refl _) (by have := HBs.out; omega))⟩
          obtain ⟨c0, c1, c2, f0, f1, f2⟩ := HX3.out.ct.cells
          have hw3 : IntKind.i64.wrap ((m : Int) + 3) = (m : Int) + 3 := IntWalk.i64_in _ (by have := Hs.out; have := HM.out; omega)
          have hw4 : IntKind.i64.wrap ((at0 : Int) + ((m : Int) + 3)) = (at0 : Int) + ((m : Int) + 3) := IntWalk.i64_in _ (by have := Hs.out; have := HM.out; omega)
          have HX4 : Aside0 (Bx g w.heap.size s v w (at0 + (m + 3)) l (wr.setCell ⟨g, 1, none⟩ (.int .i64 ((at0 : Int) + ((m : Int) + 3))))) := ⟨HX3.out.to (at0 + (m + 3))⟩
          clear hlt him2 he hodd
          go_wp2_with fail
          refine (Tryd.Builder_String_any_f w.heap.size w.heap.size l _ HX4.out.bd HX4.out.bs).mono ?_
          rintro e w5 ⟨rfl, hb5, hbl5⟩
          have HX5 : Aside0 (Bx g w.heap.size s v w (at0 + (m + 3)) l w5) := ⟨HX4.out.step hb5 hbl5⟩
          rw [str_of_bytes]
          clear hb5 hbl5 c0 c1 c2 f0 f1 f2 HX4
          go_wp2_with fail
          refine (add B g at0 s (at0 + (m + 3)) v ts 4 0 0 _ _ HB.out HX5.out.ct (HX5.out.own HO.out HR0.out) HL.out (Nat.le_trans HW.out HX5.out.bs)).mono ?_
          rintro e w6 ⟨rfl, v6, hR6, hO6, hB6⟩
          go_wp2
          go_ret
          refine ⟨(HX5.out.below HB.out).trans hB6, ?_⟩
          rw [HE.out, HF.out]
          refine ⟨rfl, at0 + (m + 3), v6, by have := HM.out; omega, ?_, hR6, ?_⟩
          · have e1 : (bytesOf s).drop (at0 + (m + 3)) = ((bytesOf s).drop (at0 + 2)).drop (m + 1) := by rw [List.drop_drop]; congr 1; omega
            rw [e1, HPR.out, show P ++ 39 :: R = (P ++ [39]) ++ R by simp, List.drop_left' (by simp [HPl.out])]
          · exact hO6
end Go.Proofs.YtffaibjiiiochaaDoor.Ct
