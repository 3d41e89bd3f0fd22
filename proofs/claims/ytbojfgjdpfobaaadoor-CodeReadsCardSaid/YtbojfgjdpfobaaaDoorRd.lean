/- The reader of layer 5: take, byte, number, counted, ended, value, each walked once. -/
import Derived.Test.YtbojfgjdpfobaaaDoorProg
import Derived.Test.YtbojfgjdpfobaaaDoorWWords
import Derived.Test.YtbojfgjdpfobaaaDoorWLast
import Derived.Test.YtbojfgjdpfobaaaDoorWMore
import Derived.LoopTactic
import Derived.Deep.DeepCutAuto
import Derived.Deep.LoopGhost
import Derived.Deep.QuietTactic
import Derived.BigQuiet
import Derived.Deep.RegionHeld3
import Derived.Outline
import Derived.IntWalk
set_option linter.unusedVariables false
set_option linter.unusedSimpArgs false
namespace Go.Proofs.YtbojfgjdpfobaaaDoor.Rd
open Go.RowKit Go.Proofs.YtbojfgjdpfobaaaDoorW.PrintWords Go.Proofs.YtbojfgjdpfobaaaDoorW.PrintLast Go.Proofs.YtbojfgjdpfobaaaDoorW.PrintMore
/-- the reader's block -/
def Rdr (w : World) (g : Nat) (A : Option Addr) (n c : Nat) (s : Nat × Bool) : Prop := w.heap[g]? = some (.cells #[.slice A n c, .int .i64 s.1, .bool s.2] 56 (0, 0))
theorem Rdr.cells {w : World} {g : Nat} {A : Option Addr} {n c : Nat} {s : Nat × Bool} (h : Rdr w g A n c s) :
    w.cell? ⟨g, 0, none⟩ = some (.slice A n c) ∧ w.cell? ⟨g, 1, none⟩ = some (.int .i64 s.1) ∧ w.cell? ⟨g, 2, none⟩ = some (.bool s.2) ∧
    w.frozen? ⟨g, 0, none⟩ = false ∧ w.frozen? ⟨g, 1, none⟩ = false ∧ w.frozen? ⟨g, 2, none⟩ = false :=
  ⟨(blk_cell h 0).trans rfl, (blk_cell h 1).trans rfl, (blk_cell h 2).trans rfl, blk_frozen h 0, blk_frozen h 1, blk_frozen h 2⟩
theorem Rdr.drew {w : World} {g : Nat} {A : Option Addr} {n c : Nat} {s : Nat × Bool} (h : Rdr w g A n c s) : Rdr w.drew g A n c s := h
theorem Rdr.drewN {w : World} {g : Nat} {A : Option Addr} {n c : Nat} {s : Nat × Bool} (h : Rdr w g A n c s) (k : Nat) : Rdr (w.drewN k) g A n c s := h
theorem Rdr.ok {w : World} {g : Nat} {A : Option Addr} {n c : Nat} {s : Nat × Bool} (h : Rdr w g A n c s) (b : Bool) : Rdr (w.setCell ⟨g, 2, none⟩ (.bool b)) g A n c (s.1, b) := blk_put h 2 _ rfl
theorem Rdr.to {w : World} {g : Nat} {A : Option Addr} {n c : Nat} {s : Nat × Bool} (h : Rdr w g A n c s) (m : Nat) : Rdr (w.setCell ⟨g, 1, none⟩ (.int .i64 m)) g A n c (m, s.2) := blk_put h 1 _ rfl
/-- nothing else has turned -/
structure Kp (B g : Nat) (w w' : World) : Prop where
  kb : KeepBut w w' g none
  bl : Below B w w'
theorem Kp.refl (B g : Nat) (w : World) : Kp B g w w := ⟨KeepBut.refl w g none, Below.refl B w⟩
theorem Kp.trans {B g : Nat} {w w1 w2 : World} (h : Kp B g w w1) (k : Kp B g w1 w2) : Kp B g w w2 := ⟨h.kb.trans k.kb (.inl rfl), h.bl.trans k.bl⟩
theorem Kp.drew {B g : Nat} {w w1 : World} (h : Kp B g w w1) : Kp B g w w1.drew := ⟨keep_drew h.kb, below_drew h.bl⟩
theorem Kp.drewN {B g : Nat} {w w1 : World} (h : Kp B g w w1) (n : Nat) : Kp B g w (w1.drewN n) := ⟨keep_drewN h.kb n, pw_below_drewN h.bl n⟩
theorem Kp.set_ {B g : Nat} {w w1 : World} (h : Kp B g w w1) (hB : B ≤ g) (j : Nat) (u : Value) : Kp B g w (w1.setCell ⟨g, j, none⟩ u) := ⟨h.kb.set_ j u, h.bl.setCell hB _⟩
theorem Kp.alloc {B g : Nat} {w w1 : World} (h : Kp B g w w1) (hB : B ≤ w.heap.size) (o : Obj) : Kp B g w (w1.alloc o) := ⟨keep_alloc h.kb o, h.bl.alloc (Nat.le_trans hB h.kb.1) o⟩
/-- what is read, as lists -/
def takeS (xs : List Int) (m : Int) (s : Nat × Bool) : List Int × (Nat × Bool) :=
  if s.2 = true ∧ m ≤ (xs.length : Int) - (s.1 : Int) then ((xs.drop s.1).take m.toNat, (s.1 + m.toNat, true)) else ([], (s.1, false))
/-- a row of bytes -/
abbrev Bs (w : World) (A : Option Addr) (n : Nat) (xs : List Int) : Prop := Kd.C (Kd.int .u8) w A n xs
def byteS (xs : List Int) (most : Int) (s : Nat × Bool) : Int × (Nat × Bool) :=
  if s.2 = true ∧ s.1 < xs.length then (if xs.getD s.1 0 > most then (0, (s.1 + 1, false)) else (xs.getD s.1 0, (s.1 + 1, true))) else (0, (s.1, false))
set_option maxHeartbeats 2000000 in
set_option maxRecDepth 100000 in
theorem take_no (B g : Nat) (A : Option Addr) (n c : Nat) (s : Nat × Bool) (m : Int) (w : World) (hB : B ≤ g) (R : Rdr w g A n c s) (hs : s.1 ≤ n) (hn : n ≤ 1000000000) (hno : ¬ (s.2 = true ∧ m ≤ (n : Int) - (s.1 : Int))) :
    Calls Tryd.prog 44 #[.pointer (some ⟨g, 0, none⟩), .int .i64 m] w fun e w' => e = .returned (.slice none 0 0) ∧ Rdr w' g A n c (s.1, false) ∧ Kp B g w w' := by
  obtain ⟨at_, ok⟩ := s
  obtain ⟨c0, c1, c2, f0, f1, f2⟩ := R.cells
  simp only at hs hno c1 c2
  have hR := Aside0.mk R
  have HB := Aside0.mk hB
  clear R hB
  have hsub : IntKind.i64.wrap ((n : Int) - (at_ : Int)) = (n : Int) - (at_ : Int) := IntWalk.i64_in _ (by omega)
  cases ok
  · clear hno
    go_enter Tryd.func44, Tryd.ntmps44
    go_wp2_with fail
    go_quiet (fail)
    go_wp2
    go_ret
    exact ⟨rfl, (hR.out.drewN _).ok false, ((Kp.refl B g w).drewN _).set_ HB.out 2 _⟩
  · have hgt : decide ((n : Int) - (at_ : Int) < m) = true := decide_eq_true (by simp at hno; omega)
    have hno' := Aside0.mk hno
    clear hno
    go_enter Tryd.func44, Tryd.ntmps44
    go_wp2_with fail
    go_quiet (fail)
    go_wp2
    go_ret
    exact ⟨rfl, (hR.out.drewN _).ok false, ((Kp.refl B g w).drewN _).set_ HB.out 2 _⟩
set_option maxHeartbeats 2000000 in
set_option maxRecDepth 100000 in
theorem take_yes (B g : Nat) (A : Option Addr) (n c : Nat) (at_ m : Nat) (w : World) (hB : B ≤ g) (R : Rdr w g A n c (at_, true)) (hs : at_ + m ≤ n) (hn : n ≤ 1000000000) (hc : n ≤ c) (hc2 : 0 ≤ c) :
    Calls Tryd.prog 44 #[.pointer (some ⟨g, 0, none⟩), .int .i64 m] w fun e w' => ∃ A' c', e = .returned (.slice A' m c') ∧ A' = (if c = at_ then A else A.map (·.add at_)) ∧ m ≤ c' ∧ Rdr w' g A n c (at_ + m, true) ∧ Kp B g w w' := by
  obtain ⟨c0, c1, c2, f0, f1, f2⟩ := R.cells
  simp only at c1 c2
  have hR := Aside0.mk R
  have HB := Aside0.mk hB
  clear R hB
  have hsub : IntKind.i64.wrap ((n : Int) - (at_ : Int)) = (n : Int) - (at_ : Int) := IntWalk.i64_in _ (by omega)
  have hgt : decide ((n : Int) - (at_ : Int) < (m : Int)) = false := decide_eq_false (by omega)
  go_enter Tryd.func44, Tryd.ntmps44
  go_wp2_with fail
  go_quiet (fail)
  have hadd : IntKind.i64.wrap ((at_ : Int) + (m : Int)) = (at_ : Int) + (m : Int) := IntWalk.i64_in _ (by omega)
  have hback : IntKind.i64.wrap ((at_ : Int) + (m : Int) - (m : Int)) = (at_ : Int) := by rw [Int.add_sub_cancel]; exact IntWalk.i64_in _ (by omega)
  have p0 : (0 : Int) ≤ (at_ : Int) := by omega
  have p1 : (at_ : Int) ≤ (at_ : Int) + (m : Int) := by omega
  have p2 : (at_ : Int) + (m : Int) ≤ (c : Int) := by omega
  go_wp2
  go_quiet (fail)
  go_wp2
  all_goals go_ret
  · have hca : c = at_ := by assumption
    subst hca
    exact ⟨_, _, rfl, rfl, by omega, ((hR.out.drewN _).to (c + m)).drewN _, (((Kp.refl B g w).drewN _).set_ HB.out 1 _).drewN _⟩
  · have hca : ¬ c = at_ := by assumption
    exact ⟨_, _, rfl, rfl, by omega, ((hR.out.drewN _).to (at_ + m)).drewN _, (((Kp.refl B g w).drewN _).set_ HB.out 1 _).drewN _⟩
theorem Bs.kp {B g : Nat} {w w' : World} {A : Option Addr} {xs : List Int} (h : Bs w A xs.length xs) (k : Kp B g w w') (hf : ∀ ad, A = some ad → 0 < xs.length → ad.block ≠ g) : Bs w' A xs.length xs := Kd.C_keep (0 : Int) h k.kb hf
/-- take, whatever stands there -/
theorem take (B g : Nat) (A : Option Addr) (c : Nat) (xs : List Int) (s : Nat × Bool) (m : Int) (w : World) (hB : B ≤ g) (R : Rdr w g A xs.length c s) (hs : s.1 ≤ xs.length) (hn : xs.length ≤ 1000000000) (hc : xs.length ≤ c) (hc2 : 0 ≤ c) (hm : 0 ≤ m)
    (hx : Bs w A xs.length xs) (hf : ∀ ad, A = some ad → 0 < xs.length → ad.block ≠ g) :
    Calls Tryd.prog 44 #[.pointer (some ⟨g, 0, none⟩), .int .i64 m] w fun e w' => ∃ A' c', e = .returned (.slice A' (takeS xs m s).1.length c') ∧ (takeS xs m s).1.length ≤ c' ∧ Bs w' A' (takeS xs m s).1.length (takeS xs m s).1 ∧ Rdr w' g A xs.length c (takeS xs m s).2 ∧ Kp B g w w' := by
  by_cases h : s.2 = true ∧ m ≤ (xs.length : Int) - (s.1 : Int)
  · obtain ⟨at_, ok⟩ := s
    obtain ⟨h1, h2⟩ := h
    simp only at h1 h2 hs
    subst h1
    obtain ⟨m, rfl⟩ : ∃ k : Nat, m = k := ⟨m.toNat, by omega⟩
    have e : takeS xs (m : Int) (at_, true) = ((xs.drop at_).take m, (at_ + m, true)) := by
      unfold takeS
      rw [if_pos ⟨rfl, h2⟩]
      simp
    have hl : ((xs.drop at_).take m).length = m := by rw [List.length_take, List.length_drop]; omega
    rw [e]
    refine (take_yes B g A xs.length c at_ m w hB R (by omega) hn hc hc2).mono ?_
    rintro e w' ⟨A', c', rfl, rfl, hc', hR, hK⟩
    refine ⟨_, _, by rw [hl], by rw [hl]; exact hc', ?_, hR, hK⟩
    have hx' := hx.kp hK hf
    have hmid := Kd.C_mid (lo := at_) (hi := at_ + m) hx' (by omega) (by omega) hc
    have e2 : (xs.take (at_ + m)).drop at_ = (xs.drop at_).take m := by rw [List.drop_take]; congr 1; omega
    rw [e2] at hmid
    have e3 : (Kd.int .u8).sz = 1 := rfl
    rw [e3, Nat.mul_one] at hmid
    exact hmid
  · have e : takeS xs m s = ([], (s.1, false)) := by
      unfold takeS
      rw [if_neg h]
    rw [e]
    refine (take_no B g A xs.length c s m w hB R hs hn h).mono ?_
    rintro e w' ⟨rfl, hR, hK⟩
    exact ⟨_, _, rfl, Nat.zero_le _, Kd.C_nil _ _, hR, hK⟩
theorem take1 (B g : Nat) (A : Option Addr) (c : Nat) (xs : List Int) (at_ : Nat) (w : World) (hB : B ≤ g) (R : Rdr w g A xs.length c (at_, true)) (hs : at_ < xs.length) (hn : xs.length ≤ 1000000000) (hc : xs.length ≤ c) (hc2 : 0 ≤ c)
    (hx : Bs w A xs.length xs) (hf : ∀ ad, A = some ad → 0 < xs.length → ad.block ≠ g) :
    Calls Tryd.prog 44 #[.pointer (some ⟨g, 0, none⟩), .int .i64 1] w fun e w' => ∃ ad c', e = .returned (.slice (some ad) 1 c') ∧ w'.cell? ad = some (.int .u8 (xs.getD at_ 0)) ∧ Rdr w' g A xs.length c (at_ + 1, true) ∧ Kp B g w w' := by
  have e : takeS xs 1 (at_, true) = ([xs.getD at_ 0], (at_ + 1, true)) := by
    unfold takeS
    rw [if_pos ⟨rfl, by show (1 : Int) ≤ (xs.length : Int) - (at_ : Int); omega⟩]
    rw [List.drop_eq_getElem_cons hs, List.getD_eq_getElem?_getD, List.getElem?_eq_getElem hs]
    rfl
  refine (take B g A c xs (at_, true) 1 w hB R (Nat.le_of_lt hs) hn hc hc2 (by decide) hx hf).mono ?_
  rw [e]
  rintro e w' ⟨A', c', rfl, hc', hx', hR, hK⟩
  obtain ⟨ad, cs, rfl, _, hk, hcell⟩ := Kd.C_get hx' 0 0 (Int.le_refl _) (show (0 : Int) < ((1 : Nat) : Int) by decide)
  have hk' : cs = [.int .u8 (xs.getD at_ 0)] := hk
  subst hk'
  have h0 := hcell 0 _ rfl
  refine ⟨ad, c', rfl, ?_, hR, hK⟩
  have ea : ad.add ((0 : Int).toNat * (Kd.int .u8).sz + 0) = ad := by
    show ad.add (0 * 1 + 0) = ad
    simp [Addr.add]
  rw [ea] at h0
  exact h0
set_option maxHeartbeats 2000000 in
set_option maxRecDepth 100000 in
theorem byte (B g : Nat) (A : Option Addr) (c : Nat) (xs : List Int) (s : Nat × Bool) (most : Int) (w : World) (hB : B ≤ g) (R : Rdr w g A xs.length c s) (hs : s.1 ≤ xs.length) (hn : xs.length ≤ 1000000000) (hc : xs.length ≤ c) (hc2 : 0 ≤ c)
    (hx : Bs w A xs.length xs) (hf : ∀ ad, A = some ad → 0 < xs.length → ad.block ≠ g) (hv : ∀ x ∈ xs, 0 ≤ x ∧ x ≤ 255) :
    Calls Tryd.prog 32 #[.pointer (some ⟨g, 0, none⟩), .int .i64 most] w fun e w' => e = .returned (.int .i64 (byteS xs most s).1) ∧ Rdr w' g A xs.length c (byteS xs most s).2 ∧ Kp B g w w' := by
  obtain ⟨at_, ok⟩ := s
  have HB := Aside0.mk hB
  by_cases h : ok = true ∧ at_ < xs.length
  · obtain ⟨rfl, hlt⟩ := h
    have hm : 0 ≤ xs.getD at_ 0 ∧ xs.getD at_ 0 ≤ 255 := by
      rw [List.getD_eq_getElem?_getD, List.getElem?_eq_getElem hlt]
      exact hv _ (List.getElem_mem hlt)
    have HT := Aside0.mk (take1 B g A c xs at_ w hB R hlt hn hc hc2 hx hf)
    unfold byteS
    rw [if_pos ⟨rfl, hlt⟩]
    simp only
    clear R hx hf hv hs hB
    generalize xs.getD at_ 0 = x at HT hm
    obtain ⟨hm0, hm1⟩ := hm
    have hcv : IntKind.i64.wrap x = x := IntWalk.i64_in _ (by omega)
    by_cases hq : x > most
    · rw [if_pos hq]
      have hq' : decide (most < x) = true := decide_eq_true hq
      have HQ := Aside0.mk hq
      clear hq
      go_enter Tryd.func32, Tryd.ntmps32
      go_wp2_with fail
      refine HT.out.mono ?_
      rintro e w1 ⟨ad, c', rfl, hcell, hR1, hK1⟩
      obtain ⟨c0, c1, c2, f0, f1, f2⟩ := hR1.cells
      have HR1 := Aside0.mk hR1
      have HK1 := Aside0.mk hK1
      clear hR1 hK1
      go_wp2
      go_ret
      exact ⟨rfl, HR1.out.ok false, HK1.out.set_ HB.out 2 _⟩
    · rw [if_neg hq]
      have hq' : decide (most < x) = false := decide_eq_false hq
      have HQ := Aside0.mk hq
      clear hq
      go_enter Tryd.func32, Tryd.ntmps32
      go_wp2_with fail
      refine HT.out.mono ?_
      rintro e w1 ⟨ad, c', rfl, hcell, hR1, hK1⟩
      obtain ⟨c0, c1, c2, f0, f1, f2⟩ := hR1.cells
      have HR1 := Aside0.mk hR1
      have HK1 := Aside0.mk hK1
      clear hR1 hK1
      go_wp2
      go_ret
      exact ⟨rfl, HR1.out, HK1.out⟩
  · have e : takeS xs 1 (at_, ok) = ([], (at_, false)) := by
      unfold takeS
      rw [if_neg (by rintro ⟨h1, h2⟩; simp only at h1 h2; exact h ⟨h1, by omega⟩)]
    have HT := Aside0.mk (take B g A c xs (at_, ok) 1 w hB R hs hn hc hc2 (by decide) hx hf)
    rw [e] at HT
    unfold byteS
    rw [if_neg h]
    clear R hx hf hv hs hB h e
    go_enter Tryd.func32, Tryd.ntmps32
    go_wp2_with fail
    refine HT.out.mono ?_
    rintro e w1 ⟨A', c', rfl, _, _, hR1, hK1⟩
    obtain ⟨c0, c1, c2, f0, f1, f2⟩ := hR1.cells
    have HR1 := Aside0.mk hR1
    have HK1 := Aside0.mk hK1
    clear hR1 hK1
    go_wp2
    go_ret
    exact ⟨rfl, HR1.out.ok false, HK1.out.set_ HB.out 2 _⟩
def numStep (n c : Int) : Int := IntKind.u64.wrap (IntKind.u64.wrap (n * 256) + c)
def numS (l : List Int) : Int := l.foldl numStep 0
theorem numS_snoc (xs : List Int) (k : Nat) (h : k < xs.length) : numS (xs.take (k + 1)) = numStep (numS (xs.take k)) (xs.getD k 0) := by
  unfold numS
  rw [List.take_succ_eq_append_getElem h, List.foldl_append, List.getD_eq_getElem?_getD, List.getElem?_eq_getElem h]
  rfl
set_option maxHeartbeats 2000000 in
set_option maxRecDepth 100000 in
theorem number (A : Option Addr) (c : Nat) (xs : List Int) (w : World) (hn : xs.length ≤ 1000000000) (hx : Bs w A xs.length xs) (hv : ∀ x ∈ xs, 0 ≤ x ∧ x ≤ 255) :
    Calls Tryd.prog 45 #[.slice A xs.length c] w fun e w' => e = .returned (.int .u64 (numS xs)) ∧ w = w' := by
  have HX := Aside0.mk hx
  have HV := Aside0.mk hv
  clear hx hv
  go_enter Tryd.func45, Tryd.ntmps45
  go_wp2
  go_loopg [2, 7] xs.length (fun gg s2 s7 wr => ∃ kk : Nat, Aside0 (kk ≤ xs.length) ∧ Aside0 (xs.length - kk ≤ gg) ∧ s7 = .int .i64 kk ∧ s2 = .int .u64 (numS (xs.take kk)) ∧ Aside0 (w = wr))
  case atStart => exact ⟨0, ⟨Nat.zero_le _⟩, ⟨Nat.le_refl _⟩, rfl, rfl, ⟨rfl⟩⟩
  case round =>
    obtain ⟨kk, hkk, hg, rfl, rfl, HW⟩ := hrel
    obtain rfl := HW.out
    by_cases hlt : kk < xs.length
    · have p109 : ((0 : Int) ≤ (kk : Int)) = True := eq_true (Int.natCast_nonneg kk)
      have q109 : ((kk : Int) < (xs.length : Int)) = True := eq_true (by omega)
      obtain ⟨ad, cs, rfl, _, hk, hcell⟩ := Kd.C_get HX.out 0 (kk : Int) (by omega) (by omega)
      have hk' : cs = [.int .u8 (xs.getD kk 0)] := hk
      subst hk'
      have hc := hcell 0 _ rfl
      have e1 : (kk : Int).toNat * (Kd.int .u8).sz + 0 = kk := by rw [Int.toNat_natCast]; show kk * 1 + 0 = kk; omega
      rw [e1] at hc
      have hm : 0 ≤ xs.getD kk 0 ∧ xs.getD kk 0 ≤ 255 := by
        rw [List.getD_eq_getElem?_getD, List.getElem?_eq_getElem hlt]
        exact HV.out _ (List.getElem_mem hlt)
      have hst := Aside0.mk (numS_snoc xs kk hlt)
      have hw : wrap64 ((kk : Int) + 1) = ((kk + 1 : Nat) : Int) := by unfold wrap64; omega
      have HL := Aside0.mk hlt
      clear hcell hk e1 hlt
      generalize xs.getD kk 0 = x at hc hm hst
      generalize numS (xs.take kk) = y at hst ⊢
      obtain ⟨hm0, hm1⟩ := hm
      go_wp2
      go_roundg (xs.length - (kk + 1))
      case measure => have := HL.out; have := hg.out; omega
      case rel =>
        refine ⟨kk + 1, ⟨HL.out⟩, ⟨Nat.le_refl _⟩, ?_, ?_, ⟨rfl⟩⟩
        · first | rw [hw] | go_num
        · rw [hst.out]; rfl
    · have hltz : ((kk : Int) < (xs.length : Int)) = False := eq_false (by omega)
      have hk : Aside0 (kk = xs.length) := ⟨by have := hkk.out; omega⟩
      clear hlt
      go_wp2
      go_ret
      refine ⟨?_, rfl⟩
      rw [hk.out, List.take_length]; rfl
theorem pow256 (j : Nat) : (256 : Int) ^ j = (((256 : Nat) ^ j : Nat) : Int) := by rw [Int.natCast_pow]; rfl
theorem numStep_lt (a x : Int) (j : Nat) (hj : j ≤ 7) (h0 : 0 ≤ a) (h1 : a < 256 ^ j) (hx0 : 0 ≤ x) (hx1 : x ≤ 255) : numStep a x = a * 256 + x ∧ 0 ≤ numStep a x ∧ numStep a x < 256 ^ (j + 1) := by
  have hp : (256 : Nat) ^ j ≤ 256 ^ 7 := Nat.pow_le_pow_right (by decide) hj
  have h7 : (256 : Nat) ^ 7 = 72057594037927936 := by decide
  rw [Int.pow_succ, pow256]
  rw [pow256] at h1
  rw [h7] at hp
  generalize (256 : Nat) ^ j = p at *
  have e : numStep a x = a * 256 + x := by
    unfold numStep
    rw [IntKind.wrap_u64, IntKind.wrap_u64]
    omega
  exact ⟨e, by rw [e]; omega, by rw [e]; omega⟩
theorem numFold_lt : ∀ (l : List Int) (a : Int) (j : Nat), j + l.length ≤ 8 → 0 ≤ a → a < 256 ^ j → (∀ x ∈ l, 0 ≤ x ∧ x ≤ 255) → 0 ≤ l.foldl numStep a ∧ l.foldl numStep a < 256 ^ (j + l.length)
  | [], a, j, h, h0, h1, _ => ⟨h0, h1⟩
  | x :: l, a, j, h, h0, h1, hv => by
    rw [List.length_cons] at h
    obtain ⟨_, h2, h3⟩ := numStep_lt a x j (by omega) h0 h1 (hv x List.mem_cons_self).1 (hv x List.mem_cons_self).2
    have := numFold_lt l (numStep a x) (j + 1) (by omega) h2 h3 fun y hy => hv y (List.mem_cons_of_mem _ hy)
    rw [List.foldl_cons, List.length_cons, show j + (l.length + 1) = j + 1 + l.length by omega]
    exact this
theorem numS_lt (l : List Int) (h : l.length ≤ 8) (hv : ∀ x ∈ l, 0 ≤ x ∧ x ≤ 255) : 0 ≤ numS l ∧ numS l < 256 ^ l.length := by
  have := numFold_lt l 0 0 (by omega) (by decide) (by decide) hv
  rw [Nat.zero_add] at this
  exact this
theorem takeS_mem {xs : List Int} {m : Int} {s : Nat × Bool} : ∀ x ∈ (takeS xs m s).1, x ∈ xs := by
  intro x hx
  unfold takeS at hx
  split at hx
  · exact List.mem_of_mem_drop (List.mem_of_mem_take hx)
  · cases hx
theorem takeS_len (xs : List Int) (m : Int) (s : Nat × Bool) : (takeS xs m s).1.length ≤ m.toNat := by
  unfold takeS
  split
  · exact List.length_take_le _ _
  · exact Nat.zero_le _
theorem takeS_at (xs : List Int) (m : Int) (s : Nat × Bool) (hs : s.1 ≤ xs.length) (hm : 0 ≤ m) : (takeS xs m s).2.1 ≤ xs.length := by
  unfold takeS
  split
  · rename_i h
    show s.1 + m.toNat ≤ _
    omega
  · exact hs
theorem byteS_at (xs : List Int) (m : Int) (s : Nat × Bool) (hs : s.1 ≤ xs.length) : (byteS xs m s).2.1 ≤ xs.length := by
  unfold byteS
  split
  · rename_i h
    split
    · show s.1 + 1 ≤ _; omega
    · show s.1 + 1 ≤ _; omega
  · exact hs
def countedS (xs : List Int) (s : Nat × Bool) : List Int × (Nat × Bool) :=
  takeS xs (numS (takeS xs 4 s).1) (if numS (takeS xs 4 s).1 > 2147483647 then ((takeS xs 4 s).2.1, false) else (takeS xs 4 s).2)
/-- what stays true of the bytes that are read -/
structure Src (B g : Nat) (A : Option Addr) (c : Nat) (xs : List Int) : Prop where
  hB : B ≤ g
  hn : xs.length ≤ 1000000000
  hc : xs.length ≤ c
  hc2 : 0 ≤ c
  hf : ∀ ad, A = some ad → 0 < xs.length → ad.block ≠ g
  hv : ∀ x ∈ xs, 0 ≤ x ∧ x ≤ 255
set_option maxHeartbeats 2000000 in
set_option maxRecDepth 100000 in
theorem counted (B g : Nat) (A : Option Addr) (c : Nat) (xs : List Int) (s : Nat × Bool) (w : World) (S : Src B g A c xs) (R : Rdr w g A xs.length c s) (hs : s.1 ≤ xs.length) (hx : Bs w A xs.length xs) :
    Calls Tryd.prog 34 #[.pointer (some ⟨g, 0, none⟩)] w fun e w' => e = .returned (.string (strOfNums (countedS xs s).1)) ∧ Rdr w' g A xs.length c (countedS xs s).2 ∧ Kp B g w w' := by
  have HT := Aside0.mk (take B g A c xs s 4 w S.hB R hs S.hn S.hc S.hc2 (by decide) hx S.hf)
  have hmem : ∀ x ∈ (takeS xs 4 s).1, 0 ≤ x ∧ x ≤ 255 := fun x h => S.hv x (takeS_mem x h)
  have hlen := takeS_len xs 4 s
  have hat := takeS_at xs 4 s hs (by decide)
  have hlt := numS_lt _ (by have : (4 : Int).toNat = 4 := rfl; omega) hmem
  have hlt4 : numS (takeS xs 4 s).1 < 4294967296 := by
    have hp : (256 : Nat) ^ (takeS xs 4 s).1.length ≤ 256 ^ 4 := Nat.pow_le_pow_right (by decide) hlen
    have h4 : (256 : Nat) ^ 4 = 4294967296 := by decide
    have hl2 := hlt.2
    rw [pow256] at hl2
    rw [h4] at hp
    omega
  have hlt0 := hlt.1
  have hsm : (takeS xs 4 s).1.length ≤ 1000000000 := by have : (4 : Int).toNat = 4 := rfl; omega
  have HS := Aside0.mk S
  have HX := Aside0.mk hx
  clear R hx hlt hs hlen S
  unfold countedS
  generalize takeS xs 4 s = T at *
  obtain ⟨b4, at1, ok1⟩ := T
  simp only at HT hmem hat hlt4 hlt0 hsm ⊢
  generalize hN : numS b4 = N at *
  have hcv : IntKind.i64.wrap N = N := IntWalk.i64_in _ (by omega)
  have HN := Aside0.mk hN
  have HM := Aside0.mk hmem
  have HAT := Aside0.mk hat
  have HSM := Aside0.mk hsm
  have HP := Aside0.mk hlt0
  clear hN hmem hat hsm
  by_cases hq : N > 2147483647
  · have hq' : decide ((2147483647 : Int) < N) = true := decide_eq_true hq
    rw [if_pos hq]
    clear hq
    go_enter Tryd.func34, Tryd.ntmps34
    go_wp2_with fail
    refine HT.out.mono ?_
    rintro e w1 ⟨A', c', rfl, _, hb4, hR1, hK1⟩
    have HR1 := Aside0.mk hR1
    have HK1 := Aside0.mk hK1
    have HB4 := Aside0.mk hb4
    clear hR1 hK1 hb4
    go_wp2_with fail
    refine (number A' c' b4 _ HSM.out HB4.out HM.out).mono ?_
    rintro e w2 ⟨rfl, rfl⟩
    rw [HN.out]
    obtain ⟨c0, c1, c2, f0, f1, f2⟩ := HR1.out.cells
    go_wp2_with fail
    refine (take B g A c xs (at1, false) N _ HS.out.hB (HR1.out.ok false) HAT.out HS.out.hn HS.out.hc HS.out.hc2 HP.out (HX.out.kp (HK1.out.set_ HS.out.hB 2 _) HS.out.hf) HS.out.hf).mono ?_
    rintro e w2 ⟨A2, c2', rfl, _, hb2, hR2, hK2⟩
    have hst := Kd.C_string (P := Tryd.prog) (src := 26) (dst := 9) (e := 5) (c := c2') Tryd.underlying26 Tryd.underlying5 Tryd.underlying9 hb2
    have HR2 := Aside0.mk hR2
    have HK2 := Aside0.mk ((HK1.out.set_ HS.out.hB 2 _).trans hK2)
    clear hR2 hK2 hb2
    go_wp2
    go_ret
    exact ⟨rfl, HR2.out, HK2.out⟩
  · have hq' : decide ((2147483647 : Int) < N) = false := decide_eq_false hq
    rw [if_neg hq]
    clear hq
    go_enter Tryd.func34, Tryd.ntmps34
    go_wp2_with fail
    refine HT.out.mono ?_
    rintro e w1 ⟨A', c', rfl, _, hb4, hR1, hK1⟩
    have HR1 := Aside0.mk hR1
    have HK1 := Aside0.mk hK1
    have HB4 := Aside0.mk hb4
    clear hR1 hK1 hb4
    go_wp2_with fail
    refine (number A' c' b4 _ HSM.out HB4.out HM.out).mono ?_
    rintro e w2 ⟨rfl, rfl⟩
    rw [HN.out]
    go_wp2_with fail
    refine (take B g A c xs (at1, ok1) N _ HS.out.hB (HR1.out) HAT.out HS.out.hn HS.out.hc HS.out.hc2 HP.out (HX.out.kp HK1.out HS.out.hf) HS.out.hf).mono ?_
    rintro e w2 ⟨A2, c2', rfl, _, hb2, hR2, hK2⟩
    have hst := Kd.C_string (P := Tryd.prog) (src := 26) (dst := 9) (e := 5) (c := c2') Tryd.underlying26 Tryd.underlying5 Tryd.underlying9 hb2
    have HR2 := Aside0.mk hR2
    have HK2 := Aside0.mk (HK1.out.trans hK2)
    clear hR2 hK2 hb2
    go_wp2
    go_ret
    exact ⟨rfl, HR2.out, HK2.out⟩
def endedS : Nat → List Int → List Int → Nat × Bool → List Int × (Nat × Bool)
  | 0, _, _, s => ([], s)
  | f + 1, xs, acc, s =>
    if s.2 = true then
      (if (byteS xs 255 s).1 ≠ 0 then endedS f xs (acc ++ [(byteS xs 255 s).1]) (byteS xs 255 s).2
       else if (byteS xs 255 (byteS xs 255 s).2).1 = 0 then (acc, (byteS xs 255 (byteS xs 255 s).2).2)
       else if (byteS xs 255 (byteS xs 255 s).2).1 = 255 then endedS f xs (acc ++ [0]) (byteS xs 255 (byteS xs 255 s).2).2
       else endedS f xs acc ((byteS xs 255 (byteS xs 255 s).2).2.1, false))
    else ([], s)
theorem info5 : (Tryd.prog.info? 5).map (fun i => (i.zero, i.size, i.bytes)) = some (some (.int .u8 0), 1, 1) := by kernel_rfl
/-- a row of the call's own -/
def Own (w0 w : World) (v : Value) (acc : List Int) : Prop := Kd.R (Kd.int .u8) 5 w w0.heap.size (fun k => w0.heap.size ≤ k) v acc
theorem Own.kp {B g : Nat} {w0 w w' : World} {v : Value} {acc : List Int} (h : Own w0 w v acc) (k : Kp B g w w') (hg : g < w0.heap.size) : Own w0 w' v acc := Kd.R_keep h k.kb (fun k hk => by omega)
theorem Kp.grown {B g : Nat} {w0 w w1 : World} {v : Value} (h : Kp B g w0 w) (hB : B ≤ w0.heap.size) (hg : w.grownBy w1 v.ownBlock) (hv : ∀ k, v.ownBlock = some k → w0.heap.size ≤ k) : Kp B g w0 w1 :=
  ⟨h.kb.trans (KeepBut.of_grown hg g) (by
    cases hb : v.ownBlock with
    | none => exact .inl rfl
    | some b => exact .inr ⟨b, rfl, hv b hb⟩), h.bl.grown hg (Nat.le_trans hB h.kb.1) (fun k hk => Nat.le_trans hB (hv k hk))⟩
theorem byteS_mem {xs : List Int} {m : Int} {s : Nat × Bool} (hv : ∀ x ∈ xs, 0 ≤ x ∧ x ≤ 255) : 0 ≤ (byteS xs m s).1 ∧ (byteS xs m s).1 ≤ 255 := by
  unfold byteS
  split
  · rename_i h
    have hm : 0 ≤ xs.getD s.1 0 ∧ xs.getD s.1 0 ≤ 255 := by
      rw [List.getD_eq_getElem?_getD, List.getElem?_eq_getElem h.2]
      exact hv _ (List.getElem_mem h.2)
    split
    · exact ⟨Int.le_refl 0, (by decide : (0 : Int) ≤ 255)⟩
    · exact hm
  · exact ⟨Int.le_refl 0, (by decide : (0 : Int) ≤ 255)⟩
/-- how far a byte leads -/
theorem byteS_ne {xs : List Int} {m : Int} {s : Nat × Bool} (h : (byteS xs m s).1 ≠ 0) : (byteS xs m s).2.1 = s.1 + 1 ∧ s.1 < xs.length := by
  unfold byteS at h ⊢
  split at h
  · rename_i h0
    rw [if_pos h0]
    split at h
    · exact absurd rfl h
    · rename_i h1
      rw [if_neg h1]
      exact ⟨rfl, h0.2⟩
  · exact absurd rfl h
theorem byteS_le {xs : List Int} {m : Int} {s : Nat × Bool} : s.1 ≤ (byteS xs m s).2.1 := by
  unfold byteS
  split
  · split
    · exact Nat.le_succ _
    · exact Nat.le_succ _
  · exact Nat.le_refl _
set_option maxHeartbeats 4000000 in
set_option maxRecDepth 100000 in
theorem ended (B g : Nat) (A : Option Addr) (c : Nat) (xs : List Int) (s : Nat × Bool) (w : World) (S : Src B g A c xs) (R : Rdr w g A xs.length c s) (hs : s.1 ≤ xs.length) (hx : Bs w A xs.length xs) (hBw : B ≤ w.heap.size) :
    Calls Tryd.prog 36 #[.pointer (some ⟨g, 0, none⟩)] w fun e w' => e = .returned (.string (strOfNums (endedS (xs.length + 2) xs [] s).1)) ∧ Rdr w' g A xs.length c (endedS (xs.length + 2) xs [] s).2 ∧ Kp B g w w' := by
  have HS := Aside0.mk S
  have HX := Aside0.mk hx
  have HG := Aside0.mk (blk_lt R)
  have HBW := Aside0.mk hBw
  have HR := Aside0.mk R
  have Hs := Aside0.mk hs
  clear S hx hBw R hs
  generalize hF : endedS (xs.length + 2) xs [] s = F
  have HF := Aside0.mk hF
  clear hF
  go_enter Tryd.func36, Tryd.ntmps36
  go_wp2
  go_loopg [2, 3] (xs.length + 2) (fun gg _ s3 wr => ∃ (f : Nat) (t : Nat × Bool) (acc : List Int), Aside0 (f ≤ gg) ∧ Aside0 (t.1 ≤ xs.length) ∧ Aside0 (xs.length < t.1 + f) ∧ Aside0 (acc.length ≤ t.1) ∧ Aside0 (Own w wr s3 acc) ∧ Aside0 (Rdr wr g A xs.length c t) ∧ Aside0 (Kp B g w wr) ∧ Aside0 (endedS f xs acc t = F))
  case atStart => exact ⟨xs.length + 2, s, [], ⟨Nat.le_refl _⟩, Hs, ⟨by omega⟩, ⟨Nat.zero_le _⟩, ⟨Kd.R_nil _ _ _ _ _⟩, HR, ⟨Kp.refl B g w⟩, HF⟩
  case round =>
    clear HF HR
    obtain ⟨f, ⟨at1, ok1⟩, acc, hg, ht, hft, hal, HO, HR, HK, HF⟩ := hrel
    obtain ⟨f, rfl⟩ : ∃ k, f = k + 1 := ⟨f - 1, by have := hft.out; have := ht.out; simp only at *; omega⟩
    cases ok1
    · obtain ⟨c0, c1, c2, f0, f1, f2⟩ := HR.out.cells
      have e := HF.out
      rw [endedS, if_neg (show ¬ (false = true) by decide)] at e
      subst e
      clear HF
      go_wp2
      go_ret
      exact ⟨rfl, HR.out, HK.out⟩
    · obtain ⟨c0, c1, c2, f0, f1, f2⟩ := HR.out.cells
      have hm := byteS_mem (m := 255) (s := (at1, true)) HS.out.hv
      have H1 := Aside0.mk (byte B g A c xs (at1, true) 255 wr HS.out.hB HR.out ht.out HS.out.hn HS.out.hc HS.out.hc2 (HX.out.kp HK.out HS.out.hf) HS.out.hf HS.out.hv)
      have hat := Aside0.mk (byteS_at xs 255 (at1, true) ht.out)
      have hne := Aside0.mk (@byteS_ne xs 255 (at1, true))
      have hle := Aside0.mk (@byteS_le xs 255 (at1, true))
      have e := Aside0.mk HF.out
      rw [endedS, if_pos rfl] at e
      clear HF
      generalize byteS xs 255 (at1, true) = Y at *
      obtain ⟨y, at2, ok2⟩ := Y
      simp only at H1 hat hm hne hle e
      obtain ⟨hm0, hm1⟩ := hm
      by_cases hy : y = 0
      · subst hy
        rw [if_neg (show ¬ ((0 : Int) ≠ 0) from fun h => h rfl)] at e
        have hm' := byteS_mem (m := 255) (s := (at2, ok2)) HS.out.hv
        have H2 := fun (W : World) (R' : Rdr W g A xs.length c (at2, ok2)) (X' : Bs W A xs.length xs) => byte B g A c xs (at2, ok2) 255 W HS.out.hB R' hat.out HS.out.hn HS.out.hc HS.out.hc2 X' HS.out.hf HS.out.hv
        have H2' := Aside0.mk H2
        have hat3 := Aside0.mk (byteS_at xs 255 (at2, ok2) hat.out)
        have hne3 := Aside0.mk (@byteS_ne xs 255 (at2, ok2))
        have hle3 := Aside0.mk (@byteS_le xs 255 (at2, ok2))
        clear H2
        generalize byteS xs 255 (at2, ok2) = Z at *
        obtain ⟨z, at3, ok3⟩ := Z
        simp only at H2' hat3 hm' hne3 hle3 e hle
        obtain ⟨hz0, hz1⟩ := hm'
        by_cases hz : z = 0
        · subst hz
          rw [if_pos rfl] at e
          have e := e.out
          subst e
          go_wp2_with fail
          refine H1.out.mono ?_
          rintro e1 w1 ⟨rfl, hR1, hK1⟩
          have HR1 := Aside0.mk hR1
          have HK1 := Aside0.mk (HK.out.trans hK1)
          have HO1 := Aside0.mk (HO.out.kp hK1 HG.out)
          clear hR1 hK1 HO HK HR H1 c0 c1 c2 f0 f1 f2
          go_wp2_with fail
          refine (H2'.out _ HR1.out (HX.out.kp HK1.out HS.out.hf)).mono ?_
          rintro e2 w2 ⟨rfl, hR2, hK2⟩
          obtain ⟨A4, c4, rfl, _, hb4⟩ := Kd.R_reads (HO1.out.kp hK2 HG.out)
          have hst := Kd.C_string (P := Tryd.prog) (src := 26) (dst := 9) (e := 5) (c := c4) Tryd.underlying26 Tryd.underlying5 Tryd.underlying9 hb4
          have HR2 := Aside0.mk hR2
          have HK2 := Aside0.mk (HK1.out.trans hK2)
          clear hR2 hK2 hb4
          go_wp2
          go_ret
          exact ⟨rfl, HR2.out, HK2.out⟩
        · rw [if_neg hz] at e
          have HZ := Aside0.mk hz
          have hzz1 : (z == 0) = false := by simpa using hz
          by_cases h5 : z = 255
          · subst h5
            rw [if_pos rfl] at e
            clear hz
            go_wp2_with fail
            refine H1.out.mono ?_
            rintro e1 w1 ⟨rfl, hR1, hK1⟩
            have HR1 := Aside0.mk hR1
            have HK1 := Aside0.mk (HK.out.trans hK1)
            have HO1 := Aside0.mk (HO.out.kp hK1 HG.out)
            clear hR1 hK1 HO HK HR H1 c0 c1 c2 f0 f1 f2
            go_wp2_with fail
            refine (H2'.out _ HR1.out (HX.out.kp HK1.out HS.out.hf)).mono ?_
            rintro e2 w2 ⟨rfl, hR2, hK2⟩
            have HR2 := Aside0.mk hR2
            have HK2 := Aside0.mk (HK1.out.trans hK2)
            have HO2 := Aside0.mk (HO1.out.kp hK2 HG.out)
            clear hR2 hK2 HO1 HK1 HR1
            go_wp2_with (first | ((with_reducible refine gate_builtin (b := .append) (xs := #[.tmp 29, .tmp 30]) rfl ?_); at_builtin; refine Kd.R_append (Kd.int .u8) (w0 := w2) w.heap.size rfl (.tmp 29) (.tmp 30) 26 5 (.int .u8 0) 1 rfl Tryd.underlying26 info5 rfl (by decide) (by omega) u3 acc 0 [.int .u8 0] (fun k => w.heap.size ≤ k) (fun _ => False) rfl (by first | rfl | (go_simp; done) | (go_simp; rfl)) ?aP (fun _ hk => hk.elim) ?aF ?aO ?aB ?aS ?aL ?_; (case aP => exact rfl); (case aF => exact (fun k hk => Nat.le_trans HK2.out.kb.1 hk)); (case aO => exact HO2.out); (case aB => exact Below.refl _ _); (case aS => exact HK2.out.kb.1); (case aL => have := hal.out; have := ht.out; have := HS.out.hn; (try simp only at *); omega); intro v1 w3 hO2 hb2 hg2 hat2))
            go_roundg f
            case measure => have := hg.out; omega
            case rel =>
              obtain ⟨hn1, hn2⟩ := hne3.out HZ.out
              try simp only at hn1 hn2
              refine ⟨f, (at3, ok3), acc ++ [0], ⟨Nat.le_refl _⟩, hat3, ⟨?_⟩, ⟨?_⟩, ⟨hO2⟩, ⟨blk_grown HR2.out hg2 ?_⟩, ⟨HK2.out.grown HBW.out hg2 HO2.out.1⟩, e⟩
              · have := hft.out; have := hle.out; simp only at this ⊢; omega
              · have := hal.out; have := hle.out; rw [List.length_append]; simp only [List.length_cons, List.length_nil] at this ⊢; omega
              · intro hb; have := HO2.out.1 g hb.symm; have := HG.out; omega
          · rw [if_neg h5] at e
            have h51 : (z == 255) = false := by simpa using h5
            clear hz h5
            go_wp2_with fail
            refine H1.out.mono ?_
            rintro e1 w1 ⟨rfl, hR1, hK1⟩
            have HR1 := Aside0.mk hR1
            have HK1 := Aside0.mk (HK.out.trans hK1)
            have HO1 := Aside0.mk (HO.out.kp hK1 HG.out)
            clear hR1 hK1 HO HK HR H1 c0 c1 c2 f0 f1 f2
            go_wp2_with fail
            refine (H2'.out _ HR1.out (HX.out.kp HK1.out HS.out.hf)).mono ?_
            rintro e2 w2 ⟨rfl, hR2, hK2⟩
            obtain ⟨c0, c1, c2, f0, f1, f2⟩ := hR2.cells
            have HR2 := Aside0.mk (hR2.ok false)
            have HK2 := Aside0.mk ((HK1.out.trans hK2).set_ HS.out.hB 2 (.bool false))
            have HO2 := Aside0.mk ((HO1.out.kp hK2 HG.out).kp ((Kp.refl B g w2).set_ HS.out.hB 2 (.bool false)) HG.out)
            clear hR2 hK2 HO1 HK1 HR1
            go_wp2
            go_roundg f
            case measure => have := hg.out; omega
            case rel =>
              obtain ⟨hn1, hn2⟩ := hne3.out HZ.out
              try simp only at hn1 hn2
              refine ⟨f, (at3, false), acc, ⟨Nat.le_refl _⟩, hat3, ⟨?_⟩, ⟨?_⟩, HO2, HR2, HK2, e⟩
              · have := hft.out; have := hle.out; simp only at this ⊢; omega
              · have := hal.out; have := hle.out; simp only at this ⊢; omega
      · have hy1 : (y == 0) = false := by simpa using hy
        have hy2 : (y != 0) = true := by simpa using hy
        have hcb : IntKind.u8.wrap y = y := by rw [IntKind.wrap_u8]; omega
        have hcb2 : y % 256 = y := by omega
        rw [if_pos hy] at e
        have HY := Aside0.mk hy
        clear hy
        go_wp2_with fail
        refine H1.out.mono ?_
        rintro e1 w1 ⟨rfl, hR1, hK1⟩
        have HR1 := Aside0.mk hR1
        have HK1 := Aside0.mk (HK.out.trans hK1)
        have HO1 := Aside0.mk (HO.out.kp hK1 HG.out)
        clear hR1 hK1 HO HK HR H1 c0 c1 c2 f0 f1 f2
        go_wp2_with (first | ((with_reducible refine gate_builtin (b := .append) (xs := #[.tmp 13, .tmp 16]) rfl ?_); at_builtin; refine Kd.R_append (Kd.int .u8) (w0 := w1) w.heap.size rfl (.tmp 13) (.tmp 16) 26 5 (.int .u8 0) 1 rfl Tryd.underlying26 info5 rfl (by decide) (by omega) u3 acc y [.int .u8 y] (fun k => w.heap.size ≤ k) (fun _ => False) rfl (by first | rfl | (go_simp; done) | (go_simp; rfl)) ?aP (fun _ hk => hk.elim) ?aF ?aO ?aB ?aS ?aL ?_; (case aP => exact rfl); (case aF => exact (fun k hk => Nat.le_trans HK1.out.kb.1 hk)); (case aO => exact HO1.out); (case aB => exact Below.refl _ _); (case aS => exact HK1.out.kb.1); (case aL => have := hal.out; have := ht.out; have := HS.out.hn; (try simp only at *); omega); intro v1 w2 hO2 hb2 hg2 hat2))
        go_roundg f
        case measure => have := hg.out; omega
        case rel =>
          obtain ⟨hn1, hn2⟩ := hne.out HY.out
          try simp only at hn1 hn2
          refine ⟨f, (at2, ok2), acc ++ [y], ⟨Nat.le_refl _⟩, hat, ⟨?_⟩, ⟨?_⟩, ⟨hO2⟩, ⟨blk_grown HR1.out hg2 ?_⟩, ⟨HK1.out.grown HBW.out hg2 HO1.out.1⟩, e⟩
          · have := hft.out; simp only at this ⊢; omega
          · have := hal.out; rw [List.length_append]; simp only [List.length_cons, List.length_nil] at this ⊢; omega
          · intro hb; have := HO1.out.1 g hb.symm; have := HG.out; omega
end Go.Proofs.YtbojfgjdpfobaaaDoor.Rd
