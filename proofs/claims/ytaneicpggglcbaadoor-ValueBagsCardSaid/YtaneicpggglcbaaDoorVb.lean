/- ValueBags, walked and proved (over Vs). -/
import Derived.Test.YtaneicpggglcbaaDoorVs
set_option linter.unusedVariables false
set_option linter.unusedSimpArgs false
namespace Go.Proofs.YtaneicpggglcbaaDoor.Sv
open Go.RowKit Go.Proofs.YtaneicpggglcbaaDoorW.PrintWords Go.Proofs.YtaneicpggglcbaaDoorW.PrintLast Go.Proofs.YtaneicpggglcbaaDoorW.PrintMore
open Go.Sort hiding Below
open Go.Proofs.YtaneicpggglcbaaDoor.QVT Go.Proofs.YtaneicpggglcbaaDoor.Pu
open Go.Proofs.YtaneicpggglcbaaDoor.Sm (CmpOk SB Row ltOf stable_s)
variable {wb : World}
theorem one_row (w : World) (x : El wb) (hb : RowKit.Below wb.heap.size wb w) : Rd (w.alloc (.cells #[encE x] 23)) (some ⟨w.heap.size, 0, none⟩) [x] := ⟨rfl, by simp, fun _ => ⟨_, rfl, fun j hj => by
  have : j = 0 := by simpa using hj
  subst this
  simp [Addr.add]⟩⟩
/-- append of a list that is read onto an own one, as a step of a region that draws -/
theorem step_append {ops : Array Oper} {o : Oper} {a : Act} {Q : Exit → Act → World → Prop} {Kc : Act → World → Prop} {w0 W : World} (base : Nat) (hw : Region.wanted o (yielded ops a.tmps) = true) (s x : Operand)
    (ho : o.op = .call { callee := .builtin .append, args := #[s, x], argTypes := #[41, 41] }) (v : Value) (xs ys : List (El wb)) (A : Option Addr) (m c : Nat) (hs : a.eval s = v) (hx : a.eval x = .slice A m c) (hm : ys.length = m)
    (HO : Ow W base v xs) (HR : Rd W A ys) (HB : Below base w0 W) (hbase : base ≤ W.heap.size) (hl : (xs.length + m) * 24 ≤ 140737488355328)
    (h : ∀ v1 w1, Ow w1 base v1 (xs ++ ys) → Below base w0 w1 → Kc (a.put o.dst v1) w1) :
    if Region.wanted o (yielded ops a.tmps) = true then Oper.wp Tryd.prog o a W Kc Q else Kc (a.put o.dst undef) W := by
  subst hm
  refine Kd.R_append_rows_step (Kd.scalar encE one_encE) (Rr := fun x cs => cs = [encE x]) (w0 := w0) base hw s x 41 23 (.slice none 0 0) 24 ho (by kernel_rfl) info23b rfl (Nat.zero_lt_one) (by decide) v xs ys A ys.length c (fun _ => True) (fun _ => False) hs hx (Kd.R_of_own HO (fun _ _ => trivial)) (Kd.C_of_reads (d := default) (h1 := one_encE) HR) (fun _ _ h => h) (fun _ h => h.elim) (fun _ _ => trivial) HB hbase hl ?_
  intro v1 w1 hR hB _ _
  exact h v1 w1 (Kd.own_of_R hR) hB
theorem cmp_s {w : World} (x y : El wb) (hb : RowKit.Below wb.heap.size wb w) : Calls Tryd.prog 24 #[encE x, encE y] w fun e w' => e = .returned (.int .i64 (cfE x y)) ∧ Below w.heap.size w w' := by
  obtain ⟨A0, c0, e0, hl0, hC0⟩ := x.h.below hb
  obtain ⟨A1, c1, e1, hl1, hC1⟩ := y.h.below hb
  unfold encE
  rw [e0, e1]
  refine value_CompareRows.calls A0 c0 x.c A1 c1 y.c (cfE x y) w hC0 hl0 hC1 hl1 ?_
  unfold value_CompareRows.f cfE
  rw [if_pos ⟨hC0.2.1, hC1.2.1⟩]
/-- a row that came in -/
theorem el_of {w : World} {A : Option Addr} {c : Nat} {l : List S27} (h : Kd.C k27 w A l.length l) (hc : l.length ≤ c) : ∃ x : El w, encE x = .slice A l.length c ∧ x.c = l := ⟨⟨_, _, A, c, rfl, hc, h⟩, rfl, rfl⟩
set_option maxHeartbeats 16000000 in
set_option maxRecDepth 1000000 in
theorem valueBags_s (A0 : Option Addr) (c0 : Nat) (l0 : List (List S27)) (A1 : Option Addr) (c1 : Nat) (l1 : List S27) (kk : Int) (w : World) (hr0 : Kd.C (Kd.slice 27 k27) w A0 l0.length l0) (hc0 : l0.length ≤ c0) (hr1 : Kd.C k27 w A1 l1.length l1) (hc1 : l1.length ≤ c1) (hok : Wv.OkW w) (w0 : OkL l0) (hb1 : l1.length * 32 ≤ 140737488351232) (wl1 : ∀ x ∈ l1, Rw.OkV x) (hk : (Lit.int .i64 kk).wf = true) :
    Calls Tryd.prog 9 #[.slice A0 l0.length c0, .slice A1 l1.length c1, .int .i64 kk] w fun e w' => e = .returned (.bool true) ∧ Below w.heap.size w w' := by
  have w1 : OkL [l1] := ⟨by simp, fun r hr => by rw [List.mem_singleton.1 hr]; exact ⟨hb1, wl1⟩⟩
  obtain ⟨b0, B0⟩ := big_s l0 w0
  obtain ⟨b1, B1⟩ := big_s [l1] w1
  obtain ⟨x, ex, exc⟩ := el_of hr1 hc1
  rw [← ex]
  have HR0 := Aside0.mk hr0
  have HC := Aside0.mk hc0
  have HB0 := Aside0.mk B0
  have HB1 := Aside0.mk B1
  have XC := Aside0.mk exc
  have HK := Aside0.mk hk
  obtain ⟨n0, e0⟩ : ∃ q, q = l0.length := ⟨_, rfl⟩
  have E0 := Aside0.mk e0
  have CL := live_s w hok
  have hcl0 := (one_encE (wb := w)).cells
  simp only [Value.cells] at hcl0
  rw [← e0]
  clear hr0 hr1 hc0 hc1 hok w0 w1 hb1 wl1 B0 B1 e0 ex exc hk
  go_enter Tryd.func9, Tryd.ntmps9
  go_wp2_with fail
  refine CL.mono ?_
  rintro e w1 ⟨rfl, bl⟩
  have BL := Aside0.mk bl
  have C0 := HB0.out A0 c0 w1 (Kd.C_below HR0.out bl) HC.out
  rw [← E0.out] at C0
  clear CL bl
  go_wp2_with fail
  refine C0.mono ?_
  rintro e w2 ⟨rfl, bl⟩
  have B2 := Aside0.mk (BL.out.trans (RowKit.Below.mono bl BL.out.size))
  clear C0 bl
  cases b0 with
  | true =>
    go_wp2
    go_ret
    exact ⟨rfl, B2.out⟩
  | false =>
  have C1 := HB1.out (some ⟨w2.heap.size, 0, none⟩) 1 (w2.alloc (.cells #[encE x] 23)) (by
    have := (one_row w2 x B2.out).to_C (B2.out.trans (RowKit.Below.mono ((Below.refl w2.heap.size w2).alloc (Nat.le_refl _) _) B2.out.size))
    rw [← XC.out]; exact this) (Nat.le_refl _)
  have BA := Aside0.mk (B2.out.trans (RowKit.Below.mono ((Below.refl w2.heap.size w2).alloc (Nat.le_refl _) (.cells #[encE x] 23)) B2.out.size))
  rw [List.length_singleton] at C1
  go_wp2_with fail
  refine C1.mono ?_
  rintro e w3 ⟨rfl, bl⟩
  have B3 := Aside0.mk (BA.out.trans (RowKit.Below.mono bl BA.out.size))
  clear C1 bl
  cases b1 with
  | true =>
    go_wp2
    go_ret
    exact ⟨rfl, B3.out⟩
  | false =>
  by_cases h0 : (500 : Int) < (n0 : Int)
  · go_wp2
    go_ret
    exact ⟨rfl, B3.out⟩
  have LN : Aside0 (n0 ≤ 500) := ⟨by omega⟩
  obtain ⟨d0, m0, k0⟩ := els HR0.out
  have s0 : d0.size = n0 := by have := congrArg List.length m0; rw [List.length_map] at this; have e := E0.out; simp at this; omega
  have R0 : Aside0 (Rd w A0 d0.toList) := ⟨Rd.cells k0 (by have := LN.out; omega)⟩
  have S0 : Aside0 (d0.toList.length = n0 ∧ d0.size = n0) := ⟨by simpa using s0, s0⟩
  have K0 := Aside0.mk k0
  clear s0 k0 m0
  have C5 := sorted_s swo A0 c0 d0 w3 (by rw [S0.out.2]; have := LN.out; omega) (K0.out.below B3.out) B3.out
  rw [S0.out.2] at C5
  go_wp2_with fail
  refine C5.mono ?_
  rintro e w5 ⟨v5, d5, rfl, s5, o5, b5⟩
  have S5 := Aside0.mk s5
  have B5 := Aside0.mk (B3.out.trans (RowKit.Below.mono b5 B3.out.size))
  obtain ⟨A5, c5, rfl, hc5, k5⟩ := o5.slice
  have Z5 : Aside0 (d5.size = n0 ∧ d5.toList.length = n0) := ⟨by rw [s5.size, S0.out.2], by rw [Array.length_toList, s5.size, S0.out.2]⟩
  have K5 := Aside0.mk k5
  have HC5 := Aside0.mk hc5
  clear C5 s5 o5 b5 hc5 k5
  have hnn : ((n0 : Int) != (n0 : Int)) = false := by simp
  rw [Z5.out.1]
  have C6 := sameBag_s swo A0 A5 c0 c5 d0 d5 w5 (by rw [S0.out.2]; have := LN.out; omega) (by rw [Z5.out.1]; have := LN.out; omega) (K0.out.below B5.out) K5.out B5.out
  rw [S0.out.2, Z5.out.1] at C6
  go_wp2_with fail
  refine C6.mono ?_
  rintro e w6 ⟨r6, rfl, b6, h6⟩
  have hr6 : r6 = true := by
    rcases h6 with ⟨hn, _⟩ | ⟨_, s1, s2, h1, h2, rfl⟩
    · exact absurd rfl hn
    · have e1 : s1.toList.map El.c = s2.toList.map El.c := uniq ((h1.perm.trans (S5.out.perm.symm.trans h2.perm.symm)).map _) h1.pw h2.pw
      unfold same
      rw [List.drop_zero, List.drop_zero, e1]; simp
  subst hr6
  have B6 := Aside0.mk (B5.out.trans (RowKit.Below.mono b6 B5.out.size))
  have K6 := Aside0.mk (K5.out.below b6)
  clear C6 b6 h6 K5
  have C7 := sorted_s swo A5 c5 d5 w6 (by rw [Z5.out.1]; have := LN.out; omega) K6.out B6.out
  rw [Z5.out.1] at C7
  go_wp2_with fail
  refine C7.mono ?_
  rintro e w7 ⟨v7, d7, rfl, s7, o7, b7⟩
  have S7 := Aside0.mk s7
  have B7 := Aside0.mk (B6.out.trans (RowKit.Below.mono b7 B6.out.size))
  have K7 := Aside0.mk (K6.out.below b7)
  obtain ⟨A7, c7, e7, hc7, k7⟩ := o7.slice
  have z7 : d7.size = n0 := by rw [s7.size, Z5.out.1]
  have C8 := sameRows_s (wb := w) c7 c5 d7.toList d5.toList (Rd.cells k7 (by rw [z7]; have := LN.out; omega)) (Rd.cells K7.out (by rw [Z5.out.1]; have := LN.out; omega)) (by rw [Array.length_toList]; exact hc7) (by rw [Array.length_toList]; exact HC5.out) (by rw [Array.length_toList, z7]; have := LN.out; omega) B7.out
  have hT : decide (d7.toList.map El.c = d5.toList.map El.c) = true := decide_eq_true (uniq (s7.perm.map _) s7.pw S5.out.pw)
  rw [hT, Array.length_toList, z7, Z5.out.2] at C8
  subst e7
  rw [z7]
  clear C7 s7 o7 b7 hc7 k7 z7 hT K6
  go_wp2_with fail
  refine C8.mono ?_
  rintro e w8 ⟨rfl, b8⟩
  have B8 := Aside0.mk (B7.out.trans (RowKit.Below.mono b8 B7.out.size))
  have K8 := Aside0.mk (K7.out.below b8)
  clear C8 b8 K7
  go_wp2_with fail
  go_loopg [48] n0 (fun gg v wr => ∃ i : Nat, v = .int .i64 i ∧ Aside0 (i ≤ n0 ∧ n0 - i ≤ gg) ∧ Aside0 (Below w.heap.size w wr) ∧ Aside0 (Cells wr A5 d5))
  case atStart => exact ⟨0, rfl, ⟨by omega⟩, B8, K8⟩
  case round =>
    clear B8 K8
    obtain ⟨i, rfl, hi, B, K⟩ := hrel
    by_cases hlt : i < n0
    · have hltz : (i : Int) < (n0 : Int) := by omega
      have LT := Aside0.mk hlt
      match i, hi, hlt, hltz, LT with
      | 0, hi, hlt, hltz, LT =>
        have hm : Tryd.prog.follows .mixedOrders = true := by kernel_rfl
        clear hlt
        go_wp2_with fail
        go_big_region_o
        have BN := Aside0.mk B.out.drew
        have KN : Aside0 (Cells wr.drew A5 d5) := ⟨K.out⟩
        generalize wr.drew = wn at *
        go_wp2_with fail
        go_roundg (n0 - 1)
        case measure => have := hi.out; have := LT.out; omega
        case rel => exact ⟨1, by first | rfl | congr 1, ⟨by have := LT.out; omega⟩, BN, KN⟩
      | j + 1, hi, hlt, hltz, LT =>
        obtain ⟨i, hij⟩ : ∃ i, i = j + 1 := ⟨_, rfl⟩
        rw [← hij] at hi hlt hltz LT ⊢
        have HIJ := Aside0.mk hij
        obtain ⟨ad, rfl, hcell⟩ := K.out (by rw [Z5.out.1]; omega)
        have q1 := hcell j (by rw [Z5.out.1]; omega)
        have q2 := hcell i (by rw [Z5.out.1]; omega)
        have l1 : ∀ p : LB wr, p.w.cell? (ad.add j) = some (encE d5[j]!) := fun p => by rw [RowKit.Below.cell p.h (World.block_lt_of_cell? _ _ q1)]; exact q1
        have l2 : ∀ p : LB wr, p.w.cell? (ad.add i) = some (encE d5[i]!) := fun p => by rw [RowKit.Below.cell p.h (World.block_lt_of_cell? _ _ q2)]; exact q2
        have hc : ∀ p : LB wr, Calls Tryd.prog 24 #[encE d5[j]!, encE d5[i]!] p.w fun e w' => e = .returned (.int .i64 (cfE d5[j]! d5[i]!)) ∧ Below p.w.heap.size p.w w' := fun p => cmp_s _ _ (B.out.trans (RowKit.Below.mono p.h B.out.size))
        have hle : cfE d5[j]! d5[i]! ≤ 0 := by
          have := S5.out.ord j i (Nat.zero_le _) (by omega) (by rw [Z5.out.1]; exact hlt)
          have := (leE_row d5[j]! d5[i]!).1 (by unfold leE; rw [this]; rfl)
          rw [cfE_row]; exact this
        have g0 : (0 : Int) < (i : Int) := by omega
        have g5 : 0 < i := by omega
        have g0' : decide (0 < i) = true := decide_eq_true g5
        have g1 : (0 : Int) ≤ (j : Int) := Int.natCast_nonneg _
        have g2 : (0 : Int) ≤ (i : Int) := Int.natCast_nonneg _
        have g3 : (j : Int) < (n0 : Int) := by omega
        have ew : IntKind.i64.wrap ((i : Int) - 1) = (j : Int) := by rw [IntKind.wrap_i64]; have := LN.out; omega
        have ew2 : IntKind.i64.wrap ((i : Int) + 1) = ((i + 1 : Nat) : Int) := by rw [IntKind.wrap_i64]; have := LN.out; omega
        have EW := Aside0.mk ew2
        generalize hcf : cfE d5[j]! d5[i]! = cv at hle hc
        have hd : decide (cv > 0) = false := decide_eq_false (by omega)
        have hd2 : ¬ (0 : Int) < cv := by omega
        clear hcf q1 q2 hcell hlt hij ew2 hle
        generalize encE d5[j]! = y1 at l1 hc
        generalize encE d5[i]! = y2 at l2 hc
        go_wp2_with fail
        have : Nonempty (LB wr) := ⟨⟨wr, Below.refl _ _⟩⟩
        refine wp_region_lb (by kernel_rfl) (Below.refl _ wr) ?_
        repeat (quiet_step (first | (go_at_call 24; exact lb_of (hc _)) | exact lb_of (hc _)))
        refine wpQuiet_nil ?_
        intro _ hw'
        obtain ⟨p, hw''⟩ := hw'
        subst hw''
        have BN := Aside0.mk (B.out.trans (RowKit.Below.mono p.h B.out.size))
        have KN := Aside0.mk (K.out.below p.h)
        clear l1 l2 hc ew
        generalize p.w = wn at *
        clear p
        have ew2 := EW.out
        go_wp2_with fail
        clear ew2
        go_roundg (n0 - (i + 1))
        case measure => have := hi.out; have := LT.out; omega
        case rel => exact ⟨i + 1, by first | rfl | congr 1, ⟨by have := LT.out; omega⟩, BN, KN⟩
    · have hltz : ¬ (i : Int) < (n0 : Int) := by omega
      clear hlt
      go_wp2_with (at_builtin; refine print_append_row_of (w0 := w) encE default w.heap.size rfl _ _ 41 23 (.slice none 0 0) 24 rfl (by kernel_rfl) info23b rfl (by decide) one_encE _ [] d0.toList A0 n0 c0 rfl rfl ?q1 ?q2 ?q3 ?q4 ?q5 ?_)
      case q1 => exact own_nil _ _ _ _
      case q2 => have := Rd.below R0.out B.out; unfold Rd at this; rwa [S0.out.1] at this
      case q3 => exact B.out
      case q4 => exact B.out.size
      case q5 => have := LN.out; (try simp only [List.length_nil]); omega
      intro v4 w4 hown4 hB4 hg4 hat4
      have O4 : Aside0 (Ow w4 w.heap.size v4 d0.toList) := ⟨hown4⟩
      have B4 := Aside0.mk hB4
      clear hown4 hB4 hg4 hat4
      clear K B
      go_upto_if 71 with fail
      go_cut [10] (fun v wc => ∃ tn : List (El w), Aside0 (tn.Perm d0.toList) ∧ Aside0 (Ow wc w.heap.size v tn) ∧ Aside0 (Below w.heap.size w wc))
      case first =>
        by_cases hp : 0 < n0
        · have hpz : (0 : Int) < (n0 : Int) := by omega
          have hne : (n0 : Int) ≠ 0 := by omega
          have hnb : ((n0 : Int) == 0) = false := by simp; omega
          obtain ⟨a, ha⟩ : ∃ a, Int.tmod kk (n0 : Int) = a := ⟨_, rfl⟩
          have a1 : a < (n0 : Int) := by rw [← ha]; exact Int.tmod_lt_of_pos _ hpz
          have a2 : -(n0 : Int) < a := by rw [← ha]; exact Int.lt_tmod_of_pos _ hpz
          have aw : wrap64 (a + (n0 : Int)) = a + (n0 : Int) := by have := LN.out; unfold wrap64; omega
          obtain ⟨m, hm⟩ : ∃ m : Nat, (wrap64 (a + (n0 : Int))).tmod (n0 : Int) = (m : Int) := by
            rw [aw]
            exact ⟨((a + (n0 : Int)).tmod (n0 : Int)).toNat, (Int.toNat_of_nonneg (Int.tmod_nonneg _ (by omega))).symm⟩
          have hmn : m < n0 := by
            have : (wrap64 (a + (n0 : Int))).tmod (n0 : Int) < (n0 : Int) := Int.tmod_lt_of_pos _ hpz
            rw [hm] at this; omega
          have MN := Aside0.mk hmn
          have HM := Aside0.mk hm
          clear a1 a2 aw hm hmn
          obtain ⟨i0, hi⟩ : ∃ i, Tryd.prog.info? 23 = some i := ⟨_, rfl⟩
          have hisz : i0.size = 1 := by
            have q := info23b
            rw [hi] at q
            simp only [Option.map_some, Option.some.injEq, Prod.mk.injEq] at q
            exact q.2.1
          obtain ⟨hcut1, _, _⟩ := print_take_of (P := Tryd.prog) (encE (wb := w)) default 41 23 .i64 (by kernel_rfl) hi hisz A0 c0 d0.toList m (by omega) (by rw [S0.out.1]; have := MN.out; omega) (by rw [S0.out.1]; have := HC.out; have := E0.out; omega)
          have lt : (d0.toList.take m).length = m := by rw [List.length_take, S0.out.1]; have := MN.out; omega
          rw [Int.toNat_natCast, lt, S0.out.1] at hcut1
          obtain ⟨A2, hcut2, hrd2⟩ := print_cut_of (P := Tryd.prog) (encE (wb := w)) default 41 23 .i64 (by kernel_rfl) hi hisz A0 n0 c0 m (by have := MN.out; omega)
          have ld : (d0.toList.drop m).length = n0 - m := by rw [List.length_drop, S0.out.1]
          have RD : Aside0 (Rd w A2 (d0.toList.drop m)) := ⟨by have := hrd2 w d0.toList (by have := HC.out; have := E0.out; omega) (by have := R0.out; unfold Rd at this; rwa [S0.out.1] at this); unfold Rd; rwa [ld]⟩
          have RT : Aside0 (Rd w A0 (d0.toList.take m)) := ⟨rd_take R0.out m (by rw [S0.out.1]; have := MN.out; omega)⟩
          have LT := Aside0.mk lt
          have LD := Aside0.mk ld
          clear lt ld hrd2 hi hisz
          go_upto_region 16 with fail
          rw [HM.out]
          go_region_law ((first
            | (refine step_append (wb := w) (w0 := w) w.heap.size (by rfl) (.const (.slice none 0 0)) (.tmp 84) (by rfl) _ [] (d0.toList.drop m) A2 (n0 - m) (c0 - m) (by rfl) (by rfl) LD.out ?p1 ?p2 ?p3 ?p4 ?p5 ?_
               (case p1 => exact Ow.nil _ _)
               (case p3 => repeat (first | exact B4.out | apply below_drew1 | apply pw_below_drewN))
               (case p2 => exact Rd.below RD.out (by repeat (first | exact B4.out | apply below_drew1 | apply pw_below_drewN)))
               (case p4 => exact B4.out.size)
               (case p5 => have := LN.out; (try simp only [List.length_nil]); omega)
               intro v5 w5 hO5 hB5
               have O5 : Aside0 (Ow w5 w.heap.size v5 (d0.toList.drop m)) := ⟨by simpa using hO5⟩
               have B5 := Aside0.mk hB5
               clear hO5 hB5)
            | (refine step_append (wb := w) (w0 := w) w.heap.size (by rfl) (.tmp 85) (.tmp 88) (by rfl) _ (d0.toList.drop m) (d0.toList.take m) A0 m c0 (by rfl) (by rfl) LT.out ?p1 ?p2 ?p3 ?p4 ?p5 ?_
               (case p1 => exact O5.out)
               (case p2 => exact Rd.below RT.out B5.out)
               (case p3 => exact B5.out)
               (case p4 => exact B5.out.size)
               (case p5 => rw [LD.out]; have := LN.out; have := MN.out; omega)
               intro v6 w6 hO6 hB6
               have O6 := Aside0.mk hO6
               have B6 := Aside0.mk hB6
               clear hO6 hB6)))
          go_wp2_with fail
          go_meet
          exact ⟨_, ⟨by
            have := (List.perm_append_comm (l₁ := d0.toList.drop m) (l₂ := d0.toList.take m))
            rwa [List.take_append_drop] at this⟩, O6, B6⟩
        · have hpz : ¬ (0 : Int) < (n0 : Int) := by omega
          go_wp2_with fail
          go_meet
          exact ⟨d0.toList, ⟨List.Perm.refl _⟩, O4, B4⟩
      case rest =>
      obtain ⟨tn, PT, OT, BT⟩ := hcut
      clear O4 B4
      have LT : Aside0 (tn.length = n0) := ⟨by rw [PT.out.length_eq, S0.out.1]⟩
      obtain ⟨AT, cT, eT, hcT, hRT⟩ := OT.out.reads
      have RT := Aside0.mk hRT
      have KT : Aside0 (Cells wc AT tn.toArray) := ⟨fun hp => by
        obtain ⟨ad, e, hc⟩ := hRT.2.2 (by simpa using hp)
        refine ⟨ad, e, fun j hj => ?_⟩
        have hj' : j < tn.length := by simpa using hj
        rw [hc j hj', getElem!_pos _ j hj, List.getD_eq_getElem?_getD, List.getElem?_eq_getElem hj']
        simp⟩
      have ST : Aside0 (tn.toArray.size = n0) := ⟨by simpa using LT.out⟩
      have C6 := sameBag_s swo A0 AT c0 cT d0 tn.toArray wc (by rw [S0.out.2]; have := LN.out; omega) (by rw [ST.out]; have := LN.out; omega) (K0.out.below BT.out) KT.out BT.out
      rw [S0.out.2, ST.out] at C6
      rw [LT.out] at eT
      have ET := Aside0.mk eT
      subst eT
      clear hcT hRT
      go_wp2_with fail
      refine C6.mono ?_
      rintro e w6 ⟨r6, rfl, b6, h6⟩
      have hr6 : r6 = true := by
        rcases h6 with ⟨hn, _⟩ | ⟨_, s1, s2, h1, h2, rfl⟩
        · exact absurd rfl hn
        · have e1 : s1.toList.map El.c = s2.toList.map El.c := uniq ((h1.perm.trans (PT.out.symm.trans h2.perm.symm)).map _) h1.pw h2.pw
          unfold same
          rw [List.drop_zero, List.drop_zero, e1]; simp
      subst hr6
      have B6 := Aside0.mk (BT.out.trans (RowKit.Below.mono b6 BT.out.size))
      have O6 := Aside0.mk (OT.out.below b6)
      clear C6 b6 h6 OT RT KT
      go_wp2_with (at_builtin; refine gate_guard (by rfl) ?_; refine print_append_of (w0 := w) (W := w6) encE w.heap.size (by rfl) (.tmp 98) (.tmp 100) 41 23 (.slice none 0 0) 24 (by rfl) (by kernel_rfl) info23b rfl (by decide) _ tn x (by rfl) (by rfl) (one_encE _) ?q1 ?q2 ?q3 ?q4 ?_)
      case q1 => have := O6.out; unfold Ow at this; exact this
      case q2 => exact B6.out
      case q3 => exact B6.out.size
      case q4 => rw [LT.out]; have := LN.out; omega
      intro v7 w7 hown7 hB7 hg7 hat7
      have O7 : Aside0 (Ow w7 w.heap.size v7 (tn ++ [x])) := ⟨by unfold Ow; simpa using hown7⟩
      have B7 := Aside0.mk hB7
      clear hown7 hB7 hg7 hat7
      have O7' : Own w7 w.heap.size v7 (tn ++ [x]).toArray := Ow.own' (by simpa using O7.out)
      obtain ⟨A7, c7, e7, hc7, k7⟩ := O7'.slice
      have z7 : (tn ++ [x]).toArray.size = n0 + 1 := by simp [LT.out]
      have C7 := sameBag_s swo A0 A7 c0 c7 d0 (tn ++ [x]).toArray w7 (by rw [S0.out.2]; have := LN.out; omega) (by rw [z7]; have := LN.out; omega) (K0.out.below B7.out) k7 B7.out
      rw [S0.out.2, z7] at C7
      rw [z7] at e7
      subst e7
      clear hc7 k7 z7 O7'
      go_wp2_with fail
      refine C7.mono ?_
      rintro e w8 ⟨r8, rfl, b8, h8⟩
      have hr8 : r8 = false := by
        rcases h8 with ⟨_, hf⟩ | ⟨hn, _⟩
        · exact hf
        · omega
      subst hr8
      have B8 := Aside0.mk (B7.out.trans (RowKit.Below.mono b8 B7.out.size))
      clear C7 b8 h8
      go_wp2
      go_ret
      exact ⟨rfl, B8.out⟩
end Go.Proofs.YtaneicpggglcbaaDoor.Sv
