/- boscageref01.Sorted, walked (over Sv). -/
import Derived.Test.YtaneicpggglcbaaDoorSv
import Derived.Test.YtaneicpggglcbaaDoorQVTx3
set_option linter.unusedVariables false
set_option linter.unusedSimpArgs false
namespace Go.Proofs.YtaneicpggglcbaaDoor.Sv
open Go.RowKit Go.Proofs.YtaneicpggglcbaaDoorW.PrintWords Go.Proofs.YtaneicpggglcbaaDoorW.PrintLast Go.Proofs.YtaneicpggglcbaaDoorW.PrintMore
open Go.Sort hiding Below
open Go.Proofs.YtaneicpggglcbaaDoor.QVT
open Go.Proofs.YtaneicpggglcbaaDoor.Sm (CmpOk SB Row ltOf stable_s)
variable {wb : World}
/-- a list of rows of the call's own, as a list -/
def Ow (w : World) (base : Nat) (v : Value) (xs : List (El wb)) : Prop := w.ownsRow base 23 1 v xs.length (encs encE xs)
abbrev Rd (w : World) (A : Option Addr) (xs : List (El wb)) : Prop := ReadsOf (encE (wb := wb)) default w A xs.length xs
theorem Ow.below {w w1 : World} {base : Nat} {v : Value} {xs : List (El wb)} (h : Ow w base v xs) (hb : RowKit.Below w.heap.size w w1) : Ow w1 base v xs := pw_own_below h hb
theorem Ow.nil (w : World) (base : Nat) : Ow (wb := wb) w base (.slice none 0 0) [] := own_nil _ _ _ _
theorem Ow.reads {w : World} {base : Nat} {v : Value} {xs : List (El wb)} (h : Ow w base v xs) : ∃ A c, v = .slice A xs.length c ∧ xs.length ≤ c ∧ Rd w A xs := own_reads_of_le h
theorem Rd.below {w w1 : World} {A : Option Addr} {xs : List (El wb)} (h : Rd w A xs) (hb : RowKit.Below w.heap.size w w1) : Rd w1 A xs := ⟨h.1, h.2.1, fun hp => by
  obtain ⟨ad, e, hc⟩ := h.2.2 hp
  refine ⟨ad, e, fun j hj => ?_⟩
  rw [RowKit.Below.cell hb (World.block_lt_of_cell? _ _ (hc j hj))]; exact hc j hj⟩
theorem Ow.own {w : World} {base : Nat} {v : Value} {d : Array (El wb)} (h : Own w base v d) : Ow w base v d.toList := by
  unfold Ow encs
  unfold Own at h
  simpa using h
theorem Rd.cells {w : World} {A : Option Addr} {d : Array (El wb)} (h : Cells w A d) (hm : d.size ≤ 9223372036854775807) : Rd w A d.toList := ⟨rfl, by simpa using hm, fun hp => by
  obtain ⟨ad, e, hc⟩ := h (by simpa using hp)
  refine ⟨ad, e, fun j hj => ?_⟩
  have hj' : j < d.size := by simpa using hj
  rw [hc j hj', getElem!_pos d j hj', List.getD_eq_getElem?_getD, List.getElem?_eq_getElem (by simpa using hj')]
  simp⟩
/-- two rows compared by the reference -/
theorem refCmp_s {w : World} (x y : El wb) (hb : RowKit.Below wb.heap.size wb w) (hf : ∀ a b : List S27, a.length ≤ 9223372036854775807 → b.length ≤ 9223372036854775807 → ∃ k, boscageref01_CompareRows.f k a b = some (cmpL a b)) :
    Calls Tryd.prog 25 #[encE x, encE y] w fun e w' => e = .returned (.int .i64 (cfE x y)) ∧ Below w.heap.size w w' := by
  obtain ⟨A0, c0, e0, hl0, hC0⟩ := x.h.below hb
  obtain ⟨A1, c1, e1, hl1, hC1⟩ := y.h.below hb
  obtain ⟨k, hk⟩ := hf x.c y.c hC0.2.1 hC1.2.1
  unfold encE
  rw [e0, e1]
  exact boscageref01_CompareRows.calls k A0 c0 x.c A1 c1 y.c _ w hC0 hl0 hC1 hl1 hk
def leE (x y : El wb) : Bool := !ltOf cfE y x
theorem info23b : (Tryd.prog.info? 23).map (fun i => (i.zero, i.size, i.bytes)) = some (some (.slice none 0 0), 1, 24) := by kernel_rfl
set_option maxHeartbeats 4000000 in
set_option maxRecDepth 1000000 in
theorem refSorted_small (A : Option Addr) (cap : Nat) (xs : List (El wb)) (w : World) (hn : xs.length < 2) (hR : Rd w A xs) :
    Calls Tryd.prog 28 #[.slice A xs.length cap] w fun e w' => ∃ v ys, e = .returned v ∧ ys = xs ∧ Ow w' w.heap.size v ys ∧ Below w.heap.size w w' := by
  have HR := Aside0.mk hR
  have hlz : (xs.length : Int) < 2 := by omega
  have hlz2 : xs.length < 2 := hn
  clear hR
  go_enter Tryd.func28, Tryd.ntmps28
  go_wp2_with (at_builtin; refine print_append_row_of (w0 := w) encE default w.heap.size rfl _ _ 41 23 (.slice none 0 0) 24 rfl (by kernel_rfl) info23b rfl (by decide) one_encE _ [] xs A xs.length cap rfl rfl ?q1 ?q2 ?q3 ?q4 ?q5 ?_)
  case q1 => exact own_nil _ _ _ _
  case q2 => exact HR.out
  case q3 => exact Below.refl _ _
  case q4 => exact Nat.le_refl _
  case q5 => simp only [List.length_nil]; omega
  intro v1 w1 hown hB hg hat
  have HO := Aside0.mk hown
  have HB := Aside0.mk hB
  clear hown hB hg hat
  go_wp2
  go_ret
  exact ⟨_, xs, rfl, rfl, HO.out, HB.out⟩
structure LB (wa : World) where
  w : World
  h : RowKit.Below wa.heap.size wa w
theorem Addr.add_zero (a : Addr) : a.add 0 = a := by cases a; simp [Addr.add]
theorem wp_region_lb {wr : World} {id : Nat} {Q : Exit → Act → World → Prop} {a : Act} {w : World} {l : List Oper} (hB : Region.lexB .any l.toArray = true) (hS : RowKit.Below wr.heap.size wr w)
    (h : wpQuiet Tryd.prog l.toArray (fun w' => ∃ p : LB wr, w' = p.w) (fun a' => ∀ w', (∃ p : LB wr, w' = p.w) → Q .normal a' w') l a) : (Code.region id l.toArray true).wp Tryd.prog Q a w :=
  wp_region_quiet (C := fun w' => ∃ p : LB wr, w' = p.w) (by kernel_rfl) hB ⟨⟨w.drew, RowKit.Below.drew hS⟩, rfl⟩ (by simpa using h)
theorem lb_of {wr : World} {f : FuncId} {args : Array Value} {v : Value} {p : LB wr} (h : Calls Tryd.prog f args p.w fun e w' => e = .returned v ∧ RowKit.Below p.w.heap.size p.w w') :
    Calls Tryd.prog f args p.w fun e w'' => e = .returned v ∧ ∃ p' : LB wr, w'' = p'.w :=
  h.mono fun _ w'' ⟨he, hb⟩ => ⟨he, ⟨w'', p.h.trans (RowKit.Below.mono hb p.h.size)⟩, rfl⟩
theorem rd_take {w : World} {A : Option Addr} {xs : List (El wb)} (h : Rd w A xs) (m : Nat) (hm : m ≤ xs.length) : Rd w A (xs.take m) := by
  have := h.take_ m hm
  unfold Rd
  rwa [List.length_take, Nat.min_eq_left hm]
set_option maxHeartbeats 8000000 in
set_option maxRecDepth 1000000 in
theorem refSorted_big (A : Option Addr) (cap : Nat) (xs : List (El wb)) (w : World) (hn : ¬ xs.length < 2) (hmax : xs.length ≤ 1000000) (hcap : xs.length ≤ cap) (hR : Rd w A xs) (hb : RowKit.Below wb.heap.size wb w)
    (hf : ∀ a b : List S27, a.length ≤ 9223372036854775807 → b.length ≤ 9223372036854775807 → ∃ k, boscageref01_CompareRows.f k a b = some (cmpL a b))
    (IH : ∀ (A1 : Option Addr) (c1 : Nat) (ys : List (El wb)) (w1 : World), ys.length < xs.length → ys.length ≤ c1 → Rd w1 A1 ys → RowKit.Below wb.heap.size wb w1 → Calls Tryd.prog 28 #[.slice A1 ys.length c1] w1 fun e w' => ∃ v zs, e = .returned v ∧ zs.Perm ys ∧ zs.Pairwise (fun x y => leE x y = true) ∧ Ow w' w1.heap.size v zs ∧ Below w1.heap.size w1 w') :
    Calls Tryd.prog 28 #[.slice A xs.length cap] w fun e w' => ∃ v ys zs, e = .returned v ∧ (∃ s1 s2 : List (El wb), s1.Perm (xs.take (xs.length / 2)) ∧ s2.Perm (xs.drop (xs.length / 2)) ∧ s1.Pairwise (fun x y => leE x y = true) ∧ s2.Pairwise (fun x y => leE x y = true) ∧ ys = s1 ∧ zs = s2 ∧ Ow w' w.heap.size v (List.merge s1 s2 leE)) ∧ Below w.heap.size w w' := by
  have HR := Aside0.mk hR
  have HB := Aside0.mk hb
  have HF := Aside0.mk hf
  have HI := Aside0.mk IH
  obtain ⟨m, hm⟩ : ∃ q, q = xs.length / 2 := ⟨_, rfl⟩
  obtain ⟨n, hnn⟩ : ∃ q, q = xs.length := ⟨_, rfl⟩
  have N1 := Aside0.mk hnn
  have N2 : Aside0 (m = n / 2 ∧ 0 < m ∧ m < n ∧ n ≤ 1000000 ∧ n ≤ cap) := ⟨by omega⟩
  have hlz : ¬ (n : Int) < 2 := by omega
  have hlz2 : ¬ n < 2 := by omega
  have hq : Int.tdiv (n : Int) 2 = (m : Int) := by
    rw [Int.tdiv_eq_ediv_of_nonneg (by omega)]; omega
  rw [← hm, ← hnn]
  obtain ⟨i0, hi⟩ : ∃ i, Tryd.prog.info? 23 = some i := ⟨_, rfl⟩
  have hisz : i0.size = 1 := by
    have q := info23b
    rw [hi] at q
    simp only [Option.map_some, Option.some.injEq, Prod.mk.injEq] at q
    exact q.2.1
  obtain ⟨hcut1, _, _⟩ := print_take_of (P := Tryd.prog) (encE (wb := wb)) default 41 23 .i64 (by kernel_rfl) hi hisz A cap xs m (by omega) (by omega) hcap
  have lt : (xs.take m).length = m := by rw [List.length_take]; omega
  rw [Int.toNat_natCast, lt, ← hnn] at hcut1
  obtain ⟨A2, hcut2, hrd2⟩ := print_cut_of (P := Tryd.prog) (encE (wb := wb)) default 41 23 .i64 (by kernel_rfl) hi hisz A n cap m (by omega)
  have C1 := HI.out A cap (xs.take m) w (by rw [lt]; omega) (by rw [lt]; omega) (rd_take HR.out m (by omega)) HB.out
  rw [lt] at C1
  have HRD := Aside0.mk hrd2
  clear hR hb hf IH hm hnn hn hmax hcap lt hi hisz hrd2
  have hw : wrap64 (m : Int) = (m : Int) := by have := N2.out; unfold wrap64; omega
  have HW := Aside0.mk hw
  go_enter Tryd.func28, Tryd.ntmps28
  go_wp2_with fail
  clear hw
  refine C1.mono ?_
  rintro e w1 ⟨v1, s1, rfl, P1, W1, O1, B1⟩
  have PO1 := Aside0.mk P1
  have WO1 := Aside0.mk W1
  have OO1 := Aside0.mk O1
  have BO1 := Aside0.mk B1
  clear C1 P1 W1 O1 B1
  have dl : (xs.drop m).length = n - m := by rw [List.length_drop, N1.out]
  have C2 := HI.out A2 (cap - m) (xs.drop m) w1 (by rw [dl]; have := N2.out; have := N1.out; omega) (by rw [dl]; have := N2.out; omega) (by have := HRD.out w xs N2.out.2.2.2.2 (by rw [N1.out]; exact HR.out); rw [← dl] at this; exact Rd.below this BO1.out) (HB.out.trans (RowKit.Below.mono BO1.out HB.out.size))
  rw [dl] at C2
  clear dl
  have hw := HW.out
  go_wp2_with fail
  clear hw
  refine C2.mono ?_
  rintro e w2 ⟨v2, s2, rfl, P2, W2, O2, B2⟩
  have PO2 := Aside0.mk P2
  have WO2 := Aside0.mk W2
  have OO2 := Aside0.mk O2
  have OO3 := Aside0.mk (OO1.out.below B2)
  have BO2 := Aside0.mk (BO1.out.trans (RowKit.Below.mono B2 BO1.out.size))
  clear C2 P2 W2 O2 B2 OO1 hq hlz hlz2 hcut1 hcut2
  obtain ⟨A1, c1, rfl, hc1, hR1⟩ := OO3.out.reads
  obtain ⟨A3, c3, rfl, hc3, hR3⟩ := OO2.out.reads
  have R1 := Aside0.mk (And.intro hc1 hR1)
  have R3 := Aside0.mk (And.intro hc3 hR3)
  clear hc1 hR1 hc3 hR3
  have HB2 := Aside0.mk (HB.out.trans (RowKit.Below.mono BO2.out HB.out.size))
  have LN : Aside0 (s1.length + s2.length = n) := ⟨by have := PO1.out.length_eq; have := PO2.out.length_eq; rw [List.length_take] at *; rw [List.length_drop] at *; have := N1.out; have := N2.out; omega⟩
  have B0 := Aside0.mk (Below.refl w2.heap.size w2)
  go_wp2_with fail
  go_loopg [3, 4, 5] n (fun gg va vb vo wr => ∃ (A1 : Option Addr) (c1 : Nat) (t1 : List (El wb)) (A3 : Option Addr) (c3 : Nat) (t2 : List (El wb)) (out : List (El wb)), va = .slice A1 t1.length c1 ∧ vb = .slice A3 t2.length c3 ∧ Aside0 (t1.length + t2.length ≤ gg) ∧ Aside0 (out.length + t1.length + t2.length = n) ∧ Aside0 (out ++ List.merge t1 t2 leE = List.merge s1 s2 leE) ∧ Aside0 (t1.length ≤ c1 ∧ Rd w2 A1 t1) ∧ Aside0 (t2.length ≤ c3 ∧ Rd w2 A3 t2) ∧ Aside0 (Ow wr w2.heap.size vo out) ∧ Aside0 (Below w2.heap.size w2 wr))
  case atStart => exact ⟨A1, c1, s1, A3, c3, s2, [], rfl, rfl, ⟨by have := LN.out; omega⟩, ⟨by have := LN.out; rw [List.length_nil]; omega⟩, ⟨rfl⟩, R1, R3, ⟨Ow.nil _ _⟩, B0⟩
  case round =>
    clear R1 R3 B0 OO2 OO3
    obtain ⟨A1, c1, t1, A3, c3, t2, out, rfl, rfl, hg, hl, hm, R1, R3, O, B⟩ := hrel
    match t1, t2, hg, hl, hm, R1, R3 with
    | x :: t1, y :: t2, hg, hl, hm, R1, R3 =>
      obtain ⟨ad1, rfl, hcx⟩ := R1.out.2.2.2 (by simp)
      obtain ⟨ad3, rfl, hcy⟩ := R3.out.2.2.2 (by simp)
      have kx : w2.cell? ad1 = some (encE x) := by have := hcx 0 (by simp); rw [Addr.add_zero] at this; exact this
      have ky : w2.cell? ad3 = some (encE y) := by have := hcy 0 (by simp); rw [Addr.add_zero] at this; exact this
      have l1 : ∀ p : LB wr, p.w.cell? ad1 = some (encE x) := fun p => by rw [RowKit.Below.cell (B.out.trans (RowKit.Below.mono p.h B.out.size)) (World.block_lt_of_cell? _ _ kx)]; exact kx
      have l2 : ∀ p : LB wr, p.w.cell? ad3 = some (encE y) := fun p => by rw [RowKit.Below.cell (B.out.trans (RowKit.Below.mono p.h B.out.size)) (World.block_lt_of_cell? _ _ ky)]; exact ky
      have hc : ∀ p : LB wr, Calls Tryd.prog 25 #[encE y, encE x] p.w fun e w' => e = .returned (.int .i64 (cfE y x)) ∧ Below p.w.heap.size p.w w' := fun p => refCmp_s y x (HB2.out.trans (RowKit.Below.mono (B.out.trans (RowKit.Below.mono p.h B.out.size)) HB2.out.size)) HF.out
      have L1 := Aside0.mk l1
      have L2 := Aside0.mk l2
      have hcl0 := (one_encE (wb := wb)).cells
      simp only [Value.cells] at hcl0
      have g1 : (0 : Int) < ((x :: t1).length : Int) := by rw [List.length_cons]; omega
      have g2 : (0 : Int) < ((y :: t2).length : Int) := by rw [List.length_cons]; omega
      clear kx ky hcx hcy
      obtain ⟨i0, hi⟩ : ∃ i, Tryd.prog.info? 23 = some i := ⟨_, rfl⟩
      have hisz : i0.size = 1 := by
        have q := info23b
        rw [hi] at q
        simp only [Option.map_some, Option.some.injEq, Prod.mk.injEq] at q
        exact q.2.1
      cases hv : ltOf cfE y x with
      | true =>
        have hv' : cfE y x < 0 := of_decide_eq_true hv
        have hd : decide (cfE y x < 0) = true := decide_eq_true hv'
        go_wp2_with fail
        have : Nonempty (LB wr) := ⟨⟨wr, Below.refl _ _⟩⟩
        refine wp_region_lb (by kernel_rfl) (Below.refl _ wr) ?_
        repeat (quiet_step (first | (go_at_call 25; exact lb_of (hc _)) | exact lb_of (hc _)))
        refine wpQuiet_nil ?_
        intro _ hw'
        obtain ⟨p, hw''⟩ := hw'
        subst hw''
        have BP := Aside0.mk (B.out.trans (RowKit.Below.mono p.h B.out.size))
        have OP := Aside0.mk (Ow.below O.out p.h)
        have lx := L1.out p
        have ly := L2.out p
        clear l1 l2 hc L1 L2
        generalize p.w = W at *
        clear p
        obtain ⟨A5, hcut0, hrd⟩ := print_cut_of (P := Tryd.prog) (encE (wb := wb)) default 41 23 .i64 (by kernel_rfl) hi hisz (some ad3) (y :: t2).length c3 1 (by simp)
        have hcut : ∀ W : World, (Instr.slice 41 (.slice (some ad3) (t2.length + 1) c3) (some (.int .i64 1)) none none).run Tryd.prog W = .ok (.slice A5 t2.length (c3 - 1)) W := fun W => by have := hcut0 W; simpa using this
        have RN : Aside0 (t2.length ≤ c3 - 1 ∧ Rd w2 A5 t2) := ⟨by have := R3.out.1; simp only [List.length_cons] at this; omega, by have := hrd w2 (y :: t2) R3.out.1 R3.out.2; simpa using this⟩
        clear hcut0 hrd
        have HV := Aside0.mk hv
        clear hv
        go_wp2_with (at_builtin; (refine print_append_of (w0 := w2) (W := W) encE w2.heap.size rfl (.tmp 39) (.tmp 43) 41 23 (.slice none 0 0) 24 (by rfl) (by kernel_rfl) info23b rfl (by decide) _ out y (by rfl) (by rfl) (one_encE _) ?q1 ?q2 ?q3 ?q4 ?_))
        case q1 => exact OP.out
        case q2 => exact BP.out
        case q3 => exact BP.out.size
        case q4 => have := hl.out; have := N2.out; omega
        intro v4 w4 hown4 hB4 hg4 hat4
        have O4 := Aside0.mk hown4
        have B4 := Aside0.mk hB4
        clear hown4 hB4 hg4 hat4
        go_wp2_with fail
        go_roundg (t1.length + t2.length + 1)
        case measure => have := hg.out; simp only [List.length_cons] at *; omega
        case rel =>
          refine ⟨some ad1, c1, x :: t1, A5, c3 - 1, t2, out ++ [y], rfl, by first | rfl | simp, ⟨?_⟩, ⟨?_⟩, ⟨?_⟩, R1, ⟨?_, ?_⟩, ⟨by unfold Ow; simpa using O4.out⟩, B4⟩
          · simp only [List.length_cons]; omega
          · have := hl.out; simp only [List.length_append, List.length_cons, List.length_nil] at *; omega
          · rw [← hm.out, List.cons_merge_cons, if_neg (by unfold leE; rw [HV.out]; simp), List.append_assoc]; rfl
          · exact RN.out.1
          · exact RN.out.2
      | false =>
        have hv' : ¬ cfE y x < 0 := of_decide_eq_false hv
        have hd : decide (cfE y x < 0) = false := decide_eq_false hv'
        go_wp2_with fail
        have : Nonempty (LB wr) := ⟨⟨wr, Below.refl _ _⟩⟩
        refine wp_region_lb (by kernel_rfl) (Below.refl _ wr) ?_
        repeat (quiet_step (first | (go_at_call 25; exact lb_of (hc _)) | exact lb_of (hc _)))
        refine wpQuiet_nil ?_
        intro _ hw'
        obtain ⟨p, hw''⟩ := hw'
        subst hw''
        have BP := Aside0.mk (B.out.trans (RowKit.Below.mono p.h B.out.size))
        have OP := Aside0.mk (Ow.below O.out p.h)
        have lx := L1.out p
        have ly := L2.out p
        clear l1 l2 hc L1 L2
        generalize p.w = W at *
        clear p
        obtain ⟨A5, hcut0, hrd⟩ := print_cut_of (P := Tryd.prog) (encE (wb := wb)) default 41 23 .i64 (by kernel_rfl) hi hisz (some ad1) (x :: t1).length c1 1 (by simp)
        have hcut : ∀ W : World, (Instr.slice 41 (.slice (some ad1) (t1.length + 1) c1) (some (.int .i64 1)) none none).run Tryd.prog W = .ok (.slice A5 t1.length (c1 - 1)) W := fun W => by have := hcut0 W; simpa using this
        have RN : Aside0 (t1.length ≤ c1 - 1 ∧ Rd w2 A5 t1) := ⟨by have := R1.out.1; simp only [List.length_cons] at this; omega, by have := hrd w2 (x :: t1) R1.out.1 R1.out.2; simpa using this⟩
        clear hcut0 hrd
        have HV := Aside0.mk hv
        clear hv
        go_wp2_with (at_builtin; (refine print_append_of (w0 := w2) (W := W) encE w2.heap.size rfl (.tmp 47) (.tmp 51) 41 23 (.slice none 0 0) 24 (by rfl) (by kernel_rfl) info23b rfl (by decide) _ out x (by rfl) (by rfl) (one_encE _) ?q1 ?q2 ?q3 ?q4 ?_))
        case q1 => exact OP.out
        case q2 => exact BP.out
        case q3 => exact BP.out.size
        case q4 => have := hl.out; have := N2.out; omega
        intro v4 w4 hown4 hB4 hg4 hat4
        have O4 := Aside0.mk hown4
        have B4 := Aside0.mk hB4
        clear hown4 hB4 hg4 hat4
        go_wp2_with fail
        go_roundg (t1.length + t2.length + 1)
        case measure => have := hg.out; simp only [List.length_cons] at *; omega
        case rel =>
          refine ⟨A5, c1 - 1, t1, some ad3, c3, y :: t2, out ++ [x], by first | rfl | simp, rfl, ⟨?_⟩, ⟨?_⟩, ⟨?_⟩, ⟨?_, ?_⟩, R3, ⟨by unfold Ow; simpa using O4.out⟩, B4⟩
          · simp only [List.length_cons]; omega
          · have := hl.out; simp only [List.length_append, List.length_cons, List.length_nil] at *; omega
          · rw [← hm.out, List.cons_merge_cons, if_pos (by unfold leE; rw [HV.out]; simp), List.append_assoc]; rfl
          · exact RN.out.1
          · exact RN.out.2
    | [], t2, hg, hl, hm, R1, R3 =>
      obtain ⟨o1, ho1⟩ : ∃ q, q = out ++ [] := ⟨_, rfl⟩
      obtain ⟨o2, ho2⟩ : ∃ q, q = o1 ++ t2 := ⟨_, rfl⟩
      have HO1 := Aside0.mk ho1
      have HO2 := Aside0.mk ho2
      have EQ : Aside0 (o2 = List.merge s1 s2 leE) := ⟨by rw [ho2, ho1, ← hm.out]; simp⟩
      have NL : Aside0 (o1.length + t2.length = n) := ⟨by rw [ho1, List.length_append]; have := hl.out; simp only [List.length_cons, List.length_nil] at *; omega⟩
      clear ho1 ho2 hm
      go_wp2_with (at_builtin; refine print_append_row_of (w0 := w2) encE default w2.heap.size rfl _ _ 41 23 (.slice none 0 0) 24 rfl (by kernel_rfl) info23b rfl (by decide) one_encE _ out [] A1 0 c1 rfl rfl ?q1 ?q2 ?q3 ?q4 ?q5 ?_)
      case q1 => exact O.out
      case q2 => exact Rd.below R1.out.2 B.out
      case q3 => exact B.out
      case q4 => exact B.out.size
      case q5 => have := hl.out; have := N2.out; simp only [List.length_cons, List.length_nil] at *; omega
      intro v4 w4 hown4 hB4 hg4 hat4
      have O4 : Aside0 (Ow w4 w2.heap.size v4 o1) := ⟨by rw [HO1.out]; unfold Ow; simpa using hown4⟩
      have B4 := Aside0.mk hB4
      clear hown4 hB4 hg4 hat4
      go_wp2_with (at_builtin; refine print_append_row_of (w0 := w2) encE default w2.heap.size rfl _ _ 41 23 (.slice none 0 0) 24 rfl (by kernel_rfl) info23b rfl (by decide) one_encE _ o1 t2 A3 t2.length c3 rfl rfl ?q1 ?q2 ?q3 ?q4 ?q5 ?_)
      case q1 => exact O4.out
      case q2 => exact Rd.below R3.out.2 B4.out
      case q3 => exact B4.out
      case q4 => exact B4.out.size
      case q5 => have := NL.out; have := N2.out; simp only [List.length_cons, List.length_nil] at *; omega
      intro v5 w5 hown5 hB5 hg5 hat5
      have O5 : Aside0 (Ow w5 w2.heap.size v5 o2) := ⟨by rw [HO2.out]; unfold Ow; simpa using hown5⟩
      have B5 := Aside0.mk hB5
      clear hown5 hB5 hg5 hat5
      go_wp2
      go_ret
      refine ⟨_, s1, s2, rfl, ⟨s1, s2, PO1.out, PO2.out, WO1.out, WO2.out, rfl, rfl, ?_⟩, BO2.out.trans (RowKit.Below.mono B5.out BO2.out.size)⟩
      have q : Ow w5 w2.heap.size v5 (List.merge s1 s2 leE) := EQ.out ▸ O5.out
      exact own_weaken q BO2.out.size
    | x :: t1, [], hg, hl, hm, R1, R3 =>
      obtain ⟨o1, ho1⟩ : ∃ q, q = out ++ (x :: t1) := ⟨_, rfl⟩
      obtain ⟨o2, ho2⟩ : ∃ q, q = o1 ++ [] := ⟨_, rfl⟩
      have HO1 := Aside0.mk ho1
      have HO2 := Aside0.mk ho2
      have EQ : Aside0 (o2 = List.merge s1 s2 leE) := ⟨by rw [ho2, ho1, ← hm.out]; simp⟩
      have NL : Aside0 (o1.length + ([] : List (El wb)).length = n) := ⟨by rw [ho1, List.length_append]; have := hl.out; simp only [List.length_cons, List.length_nil] at *; omega⟩
      clear ho1 ho2 hm
      go_wp2_with (at_builtin; refine print_append_row_of (w0 := w2) encE default w2.heap.size rfl _ _ 41 23 (.slice none 0 0) 24 rfl (by kernel_rfl) info23b rfl (by decide) one_encE _ out (x :: t1) A1 (t1.length + 1) c1 rfl rfl ?q1 ?q2 ?q3 ?q4 ?q5 ?_)
      case q1 => exact O.out
      case q2 => exact Rd.below R1.out.2 B.out
      case q3 => exact B.out
      case q4 => exact B.out.size
      case q5 => have := hl.out; have := N2.out; simp only [List.length_cons, List.length_nil] at *; omega
      intro v4 w4 hown4 hB4 hg4 hat4
      have O4 : Aside0 (Ow w4 w2.heap.size v4 o1) := ⟨by rw [HO1.out]; unfold Ow; simpa using hown4⟩
      have B4 := Aside0.mk hB4
      clear hown4 hB4 hg4 hat4
      go_wp2_with (at_builtin; refine print_append_row_of (w0 := w2) encE default w2.heap.size rfl _ _ 41 23 (.slice none 0 0) 24 rfl (by kernel_rfl) info23b rfl (by decide) one_encE _ o1 [] A3 0 c3 rfl rfl ?q1 ?q2 ?q3 ?q4 ?q5 ?_)
      case q1 => exact O4.out
      case q2 => exact Rd.below R3.out.2 B4.out
      case q3 => exact B4.out
      case q4 => exact B4.out.size
      case q5 => have := NL.out; have := N2.out; simp only [List.length_cons, List.length_nil] at *; omega
      intro v5 w5 hown5 hB5 hg5 hat5
      have O5 : Aside0 (Ow w5 w2.heap.size v5 o2) := ⟨by rw [HO2.out]; unfold Ow; simpa using hown5⟩
      have B5 := Aside0.mk hB5
      clear hown5 hB5 hg5 hat5
      go_wp2
      go_ret
      refine ⟨_, s1, s2, rfl, ⟨s1, s2, PO1.out, PO2.out, WO1.out, WO2.out, rfl, rfl, ?_⟩, BO2.out.trans (RowKit.Below.mono B5.out BO2.out.size)⟩
      have q : Ow w5 w2.heap.size v5 (List.merge s1 s2 leE) := EQ.out ▸ O5.out
      exact own_weaken q BO2.out.size
theorem swo_le (hS : SWO (ltOf (cfE (wb := wb)))) : (∀ a b c : El wb, leE a b = true → leE b c = true → leE a c = true) ∧ (∀ a b : El wb, (leE a b || leE b a) = true) := by
  refine ⟨fun a b c h1 h2 => ?_, fun a b => ?_⟩
  · unfold leE at *
    simp only [Bool.not_eq_true'] at *
    exact hS.ntrans c b a h2 h1
  · unfold leE
    cases h : ltOf cfE b a with
    | false => simp
    | true => simp [hS.asymmA h]
theorem refSorted_s (hS : SWO (ltOf (cfE (wb := wb)))) (hf : ∀ a b : List S27, a.length ≤ 9223372036854775807 → b.length ≤ 9223372036854775807 → ∃ k, boscageref01_CompareRows.f k a b = some (cmpL a b)) :
    ∀ (N : Nat) (A : Option Addr) (cap : Nat) (xs : List (El wb)) (w : World), xs.length ≤ N → xs.length ≤ 1000000 → xs.length ≤ cap → Rd w A xs → RowKit.Below wb.heap.size wb w →
    Calls Tryd.prog 28 #[.slice A xs.length cap] w fun e w' => ∃ v zs, e = .returned v ∧ zs.Perm xs ∧ zs.Pairwise (fun x y => leE x y = true) ∧ Ow w' w.heap.size v zs ∧ Below w.heap.size w w'
  | N, A, cap, xs, w, hN, hm, hc, hR, hb => by
    by_cases hn : xs.length < 2
    · refine (refSorted_small A cap xs w hn hR).mono ?_
      rintro e w' ⟨v, ys, rfl, rfl, hO, hB⟩
      refine ⟨v, ys, rfl, List.Perm.refl _, ?_, hO, hB⟩
      match ys, hn with
      | [], _ => exact List.Pairwise.nil
      | [x], _ => exact List.pairwise_singleton _ _
    · match N, hN with
      | 0, hN => omega
      | N + 1, hN =>
        refine (refSorted_big A cap xs w hn hm hc hR hb hf fun A1 c1 ys w1 h1 h2 h3 h4 => refSorted_s hS hf N A1 c1 ys w1 (by omega) (by omega) h2 h3 h4).mono ?_
        rintro e w' ⟨v, _, _, rfl, ⟨s1, s2, p1, p2, w1, w2, _, _, hO⟩, hB⟩
        refine ⟨v, _, rfl, ?_, ?_, hO, hB⟩
        · refine (List.merge_perm_append leE).trans ?_
          have := p1.append p2
          rwa [List.take_append_drop] at this
        · exact List.pairwise_merge (swo_le hS).1 (swo_le hS).2 s1 s2 w1 w2
end Go.Proofs.YtaneicpggglcbaaDoor.Sv
