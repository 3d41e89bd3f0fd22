-- printed by our own turn of the print (wip/pr)
import Derived.Test.YtbojfgjdpfobaaaDoorQCRx0
import Derived.Test.YtbojfgjdpfobaaaDoorQCRx4
import Derived.Test.YtbojfgjdpfobaaaDoorQCRx5
import Derived.Test.YtbojfgjdpfobaaaDoorQCRx7
import Derived.Test.YtbojfgjdpfobaaaDoorQCRx8
import Derived.Test.YtbojfgjdpfobaaaDoorQCRx9
namespace Go.Proofs.YtbojfgjdpfobaaaDoor.QCR
open Go.RowKit Go.Proofs.YtbojfgjdpfobaaaDoorW.PrintWords Go.Proofs.YtbojfgjdpfobaaaDoorW.PrintLast Go.Proofs.YtbojfgjdpfobaaaDoorW.PrintMore
attribute [local go_sem] max2_int min2_int max_two min_two max_three min_three max_four min_four   -- for this text's walks alone
set_option linter.unusedVariables false
set_option linter.unusedSimpArgs false

/-! ### boscagelaw05_CodeReads: function 6 -/
def boscagelaw05_CodeReads.f (k : Nat) (l0 : List Int) : Option (Bool) := (boscagelaw05_live.f k).bind fun t321 => (if (l0.length : Int) > 100000 then (some t321) else (if ([] : List Int).length + l0.length < 140737488355328 then ((some (([] : List Int) ++ l0 : List Int)).bind fun y322 => ((code_Decode.f y322).bind fun bt325 => ((boscageref05_Decode.f k l0).bind fun bt330 => ((code_Unkey.f y322).bind fun bt335 => ((boscageref05_Unkey.f k l0).bind fun bt339 => (if t321 = true then ((boscageref01_SameRow.f k bt325.1 bt330.1).bind fun t343 => (if t343 = true then (if bt325.2.1 = bt330.2.1 then (if bt325.2.2 = bt330.2.2 then ((boscageref01_SameRow.f k bt335.1 bt339.1).bind fun t344 => (if t344 = true then (if bt335.2 = bt339.2 then ((code_Hash.f k y322).bind fun t345 => ((boscageref05_Hash.f k l0).bind fun t346 => (if t345 = t346 then (some ((strOfNums y322).toList == (strOfNums l0).toList)) else (some false)))) else (some false)) else (some false))) else (some false)) else (some false)) else (some false))) else (some false))))))) else (none)))
theorem boscagelaw05_CodeReads.mono : ∀ a0 k, LeO (boscagelaw05_CodeReads.f k a0) (boscagelaw05_CodeReads.f (k + 1) a0) := by
  intro a0 k
  unfold boscagelaw05_CodeReads.f
  repeat' first
      | (with_reducible exact boscagelaw05_live.mono _)
      | (with_reducible exact boscageref01_SameRow.mono _ _ _)
      | (with_reducible exact boscageref05_Decode.mono _ _)
      | (with_reducible exact boscageref05_Hash.mono _ _)
      | (with_reducible exact boscageref05_Unkey.mono _ _)
      | (with_reducible exact code_Hash.mono _ _)
      | (with_reducible exact LeO.refl _)
      | (with_reducible exact LeO.none _)
      | (with_reducible refine LeO.ite ?_ ?_)
      | (with_reducible refine LeO.bind ?_ (fun _ => ?_))
      | exact boscagelaw05_live.mono _
      | exact boscageref01_SameRow.mono _ _ _
      | exact boscageref05_Decode.mono _ _
      | exact boscageref05_Hash.mono _ _
      | exact boscageref05_Unkey.mono _ _
      | exact code_Hash.mono _ _
      | exact LeO.none _
      | refine LeO.ite ?_ ?_
      | refine LeO.bind ?_ (fun _ => ?_)
set_option maxHeartbeats 8000000 in
set_option maxRecDepth 100000 in
theorem boscagelaw05_CodeReads.calls (k : Nat) (A0 : Option Addr) (c0 : Nat) (l0 : List Int) (r : Bool) (w : World) (hr0 : Kd.C (Kd.int .u8) w A0 l0.length l0) (hc0 : l0.length ≤ c0) (h : boscagelaw05_CodeReads.f k l0 = some r) (hrt : r = true) :
    Calls Tryd.prog 6 #[.slice A0 l0.length c0] w fun e w' => e = .returned (.bool r) ∧ Below w.heap.size w w' := by
  have HR0 := Aside0.mk hr0
  have HC0 := Aside0.mk hc0
  clear hr0 hc0
  have HB := Aside0.mk (Below.refl w.heap.size w)
  have HRT := Aside0.mk hrt
  clear hrt
  have H : ((boscagelaw05_live.f k).bind fun t321 => (if (l0.length : Int) > 100000 then (some t321) else (if ([] : List Int).length + l0.length < 140737488355328 then ((some (([] : List Int) ++ l0 : List Int)).bind fun y322 => ((code_Decode.f y322).bind fun bt325 => ((boscageref05_Decode.f k l0).bind fun bt330 => ((code_Unkey.f y322).bind fun bt335 => ((boscageref05_Unkey.f k l0).bind fun bt339 => (if t321 = true then ((boscageref01_SameRow.f k bt325.1 bt330.1).bind fun t343 => (if t343 = true then (if bt325.2.1 = bt330.2.1 then (if bt325.2.2 = bt330.2.2 then ((boscageref01_SameRow.f k bt335.1 bt339.1).bind fun t344 => (if t344 = true then (if bt335.2 = bt339.2 then ((code_Hash.f k y322).bind fun t345 => ((boscageref05_Hash.f k l0).bind fun t346 => (if t345 = t346 then (some ((strOfNums y322).toList == (strOfNums l0).toList)) else (some false)))) else (some false)) else (some false))) else (some false)) else (some false)) else (some false))) else (some false))))))) else (none)))) = some r := h
  clear h
  replace H := Option.bind_eq_some_iff.mp H
  obtain ⟨t321, A20, H⟩ := H
  replace H : (if (l0.length : Int) > 100000 then (some t321) else (if ([] : List Int).length + l0.length < 140737488355328 then ((some (([] : List Int) ++ l0 : List Int)).bind fun y322 => ((code_Decode.f y322).bind fun bt325 => ((boscageref05_Decode.f k l0).bind fun bt330 => ((code_Unkey.f y322).bind fun bt335 => ((boscageref05_Unkey.f k l0).bind fun bt339 => (if t321 = true then ((boscageref01_SameRow.f k bt325.1 bt330.1).bind fun t343 => (if t343 = true then (if bt325.2.1 = bt330.2.1 then (if bt325.2.2 = bt330.2.2 then ((boscageref01_SameRow.f k bt335.1 bt339.1).bind fun t344 => (if t344 = true then (if bt335.2 = bt339.2 then ((code_Hash.f k y322).bind fun t345 => ((boscageref05_Hash.f k l0).bind fun t346 => (if t345 = t346 then (some ((strOfNums y322).toList == (strOfNums l0).toList)) else (some false)))) else (some false)) else (some false))) else (some false)) else (some false)) else (some false))) else (some false))))))) else (none))) = some r := H
  have A2 := Aside0.mk A20
  clear A20
  by_cases c3 : (l0.length : Int) > 100000
  · rw [if_pos c3] at H
    have c3b0 : decide (100000 < (l0.length : Int)) = true := decide_eq_true c3
    have c3b1 : decide (100000 < l0.length) = true := decide_eq_true (by omega)
    clear c3
    obtain rfl := Option.some.inj H
    go_enter Tryd.func6, Tryd.ntmps6
    go_wp2_with (first | ((with_reducible refine gate_callee (f := 9) rfl ?_); refine goesL_ (some 15) rfl rfl Tryd.func9 (by kernel_rfl) rfl #[] rfl (by (try simp only [List.map_toArray, List.map_cons, List.map_nil]); first | done | rfl | (simp only [List.length_drop, List.length_take]; rfl)) ?_; (with_reducible refine (boscagelaw05_live.calls k  t321 _ A2.out).mono ?_); rintro e w4 ⟨rfl, hb⟩; refine ⟨_, rfl, ?_⟩; have n0_ := Aside0.mk (below_step (by repeat (first | (with_reducible first | exact HB.out | apply below_alloc | apply pw_below_drewN | apply below_drew1) | exact HB.out)) hb); clear HB; have HB := n0_; clear n0_; (try clear hb); (try clear hb2); (try clear hk); (try clear hi)))
    go_ret
    exact ⟨by first | rfl | (simp [errW_none, errW_some] <;> rfl) | (simp [*, errW_none, errW_some] <;> rfl), by repeat (first | (with_reducible first | exact HB.out | apply below_alloc | apply pw_below_drewN | apply below_drew1) | exact HB.out)⟩
  · rw [if_neg c3] at H
    have c3b0 : decide (100000 < (l0.length : Int)) = false := decide_eq_false c3
    have c3b1 : decide (100000 < l0.length) = false := decide_eq_false (by omega)
    clear c3
    by_cases c5 : ([] : List Int).length + l0.length < 140737488355328
    · rw [if_pos c5] at H
      have LMc5 := Aside0.mk c5
      clear c5
      obtain ⟨y322, hy322⟩ : ∃ y_ : List Int, y_ = (([] : List Int) ++ l0) := ⟨_, rfl⟩
      replace H : ((code_Decode.f y322).bind fun bt325 => ((boscageref05_Decode.f k l0).bind fun bt330 => ((code_Unkey.f y322).bind fun bt335 => ((boscageref05_Unkey.f k l0).bind fun bt339 => (if t321 = true then ((boscageref01_SameRow.f k bt325.1 bt330.1).bind fun t343 => (if t343 = true then (if bt325.2.1 = bt330.2.1 then (if bt325.2.2 = bt330.2.2 then ((boscageref01_SameRow.f k bt335.1 bt339.1).bind fun t344 => (if t344 = true then (if bt335.2 = bt339.2 then ((code_Hash.f k y322).bind fun t345 => ((boscageref05_Hash.f k l0).bind fun t346 => (if t345 = t346 then (some ((strOfNums y322).toList == (strOfNums l0).toList)) else (some false)))) else (some false)) else (some false))) else (some false)) else (some false)) else (some false))) else (some false)))))) = some r := by first | (rw [hy322]; with_reducible exact H) | (have H2_ := (Option.bind_some _ _).symm.trans H; rw [hy322]; with_reducible exact H2_) | (have H2_ := (Option.bind_some _ _).symm.trans H; with_reducible exact H2_) | with_reducible exact H | (rw [hy322]; exact H) | exact H
      have Ny322 := Aside0.mk hy322
      clear hy322
      replace H := Option.bind_eq_some_iff.mp H
      obtain ⟨⟨t325, t326, t327⟩, A60, H⟩ := H
      replace H : ((boscageref05_Decode.f k l0).bind fun bt330 => ((code_Unkey.f y322).bind fun bt335 => ((boscageref05_Unkey.f k l0).bind fun bt339 => (if t321 = true then ((boscageref01_SameRow.f k t325 bt330.1).bind fun t343 => (if t343 = true then (if t326 = bt330.2.1 then (if t327 = bt330.2.2 then ((boscageref01_SameRow.f k bt335.1 bt339.1).bind fun t344 => (if t344 = true then (if bt335.2 = bt339.2 then ((code_Hash.f k y322).bind fun t345 => ((boscageref05_Hash.f k l0).bind fun t346 => (if t345 = t346 then (some ((strOfNums y322).toList == (strOfNums l0).toList)) else (some false)))) else (some false)) else (some false))) else (some false)) else (some false)) else (some false))) else (some false))))) = some r := H
      have A6 := Aside0.mk A60
      clear A60
      replace H := Option.bind_eq_some_iff.mp H
      obtain ⟨⟨t330, t331, t332⟩, A70, H⟩ := H
      replace H : ((code_Unkey.f y322).bind fun bt335 => ((boscageref05_Unkey.f k l0).bind fun bt339 => (if t321 = true then ((boscageref01_SameRow.f k t325 t330).bind fun t343 => (if t343 = true then (if t326 = t331 then (if t327 = t332 then ((boscageref01_SameRow.f k bt335.1 bt339.1).bind fun t344 => (if t344 = true then (if bt335.2 = bt339.2 then ((code_Hash.f k y322).bind fun t345 => ((boscageref05_Hash.f k l0).bind fun t346 => (if t345 = t346 then (some ((strOfNums y322).toList == (strOfNums l0).toList)) else (some false)))) else (some false)) else (some false))) else (some false)) else (some false)) else (some false))) else (some false)))) = some r := H
      have A7 := Aside0.mk A70
      clear A70
      replace H := Option.bind_eq_some_iff.mp H
      obtain ⟨⟨t335, t336⟩, A80, H⟩ := H
      replace H : ((boscageref05_Unkey.f k l0).bind fun bt339 => (if t321 = true then ((boscageref01_SameRow.f k t325 t330).bind fun t343 => (if t343 = true then (if t326 = t331 then (if t327 = t332 then ((boscageref01_SameRow.f k t335 bt339.1).bind fun t344 => (if t344 = true then (if t336 = bt339.2 then ((code_Hash.f k y322).bind fun t345 => ((boscageref05_Hash.f k l0).bind fun t346 => (if t345 = t346 then (some ((strOfNums y322).toList == (strOfNums l0).toList)) else (some false)))) else (some false)) else (some false))) else (some false)) else (some false)) else (some false))) else (some false))) = some r := H
      have A8 := Aside0.mk A80
      clear A80
      replace H := Option.bind_eq_some_iff.mp H
      obtain ⟨⟨t339, t342⟩, A90, H⟩ := H
      replace H : (if t321 = true then ((boscageref01_SameRow.f k t325 t330).bind fun t343 => (if t343 = true then (if t326 = t331 then (if t327 = t332 then ((boscageref01_SameRow.f k t335 t339).bind fun t344 => (if t344 = true then (if t336 = t342 then ((code_Hash.f k y322).bind fun t345 => ((boscageref05_Hash.f k l0).bind fun t346 => (if t345 = t346 then (some ((strOfNums y322).toList == (strOfNums l0).toList)) else (some false)))) else (some false)) else (some false))) else (some false)) else (some false)) else (some false))) else (some false)) = some r := H
      have A9 := Aside0.mk A90
      clear A90
      by_cases c10 : t321 = true
      · subst c10
        have H1 : ((boscageref01_SameRow.f k t325 t330).bind fun t343 => (if t343 = true then (if t326 = t331 then (if t327 = t332 then ((boscageref01_SameRow.f k t335 t339).bind fun t344 => (if t344 = true then (if t336 = t342 then ((code_Hash.f k y322).bind fun t345 => ((boscageref05_Hash.f k l0).bind fun t346 => (if t345 = t346 then (some ((strOfNums y322).toList == (strOfNums l0).toList)) else (some false)))) else (some false)) else (some false))) else (some false)) else (some false)) else (some false))) = some r := by rw [if_pos rfl] at H; exact H
        clear H
        have H := H1
        clear H1
        replace H := Option.bind_eq_some_iff.mp H
        obtain ⟨t343, A110, H⟩ := H
        replace H : (if t343 = true then (if t326 = t331 then (if t327 = t332 then ((boscageref01_SameRow.f k t335 t339).bind fun t344 => (if t344 = true then (if t336 = t342 then ((code_Hash.f k y322).bind fun t345 => ((boscageref05_Hash.f k l0).bind fun t346 => (if t345 = t346 then (some ((strOfNums y322).toList == (strOfNums l0).toList)) else (some false)))) else (some false)) else (some false))) else (some false)) else (some false)) else (some false)) = some r := H
        have A11 := Aside0.mk A110
        clear A110
        by_cases c12 : t343 = true
        · subst c12
          have H1 : (if t326 = t331 then (if t327 = t332 then ((boscageref01_SameRow.f k t335 t339).bind fun t344 => (if t344 = true then (if t336 = t342 then ((code_Hash.f k y322).bind fun t345 => ((boscageref05_Hash.f k l0).bind fun t346 => (if t345 = t346 then (some ((strOfNums y322).toList == (strOfNums l0).toList)) else (some false)))) else (some false)) else (some false))) else (some false)) else (some false)) = some r := by rw [if_pos rfl] at H; exact H
          clear H
          have H := H1
          clear H1
          by_cases c13 : t326 = t331
          · rw [if_pos c13] at H
            have c13b0 : (t326 == t331) = true := beq_iff_eq.mpr c13
            have c13b1 : (t326 != t331) = false := bne_eq_false_iff_eq.mpr c13
            clear c13
            by_cases c14 : t327 = t332
            · rw [if_pos c14] at H
              have c14b0 : (t327 == t332) = true := beq_iff_eq.mpr c14
              have c14b1 : (t327 != t332) = false := bne_eq_false_iff_eq.mpr c14
              clear c14
              replace H := Option.bind_eq_some_iff.mp H
              obtain ⟨t344, A150, H⟩ := H
              replace H : (if t344 = true then (if t336 = t342 then ((code_Hash.f k y322).bind fun t345 => ((boscageref05_Hash.f k l0).bind fun t346 => (if t345 = t346 then (some ((strOfNums y322).toList == (strOfNums l0).toList)) else (some false)))) else (some false)) else (some false)) = some r := H
              have A15 := Aside0.mk A150
              clear A150
              by_cases c16 : t344 = true
              · subst c16
                have H1 : (if t336 = t342 then ((code_Hash.f k y322).bind fun t345 => ((boscageref05_Hash.f k l0).bind fun t346 => (if t345 = t346 then (some ((strOfNums y322).toList == (strOfNums l0).toList)) else (some false)))) else (some false)) = some r := by rw [if_pos rfl] at H; exact H
                clear H
                have H := H1
                clear H1
                by_cases c17 : t336 = t342
                · rw [if_pos c17] at H
                  have c17b0 : (t336 == t342) = true := beq_iff_eq.mpr c17
                  have c17b1 : (t336 != t342) = false := bne_eq_false_iff_eq.mpr c17
                  clear c17
                  replace H := Option.bind_eq_some_iff.mp H
                  obtain ⟨t345, A180, H⟩ := H
                  replace H : ((boscageref05_Hash.f k l0).bind fun t346 => (if t345 = t346 then (some ((strOfNums y322).toList == (strOfNums l0).toList)) else (some false))) = some r := H
                  have A18 := Aside0.mk A180
                  clear A180
                  replace H := Option.bind_eq_some_iff.mp H
                  obtain ⟨t346, A190, H⟩ := H
                  replace H : (if t345 = t346 then (some ((strOfNums y322).toList == (strOfNums l0).toList)) else (some false)) = some r := H
                  have A19 := Aside0.mk A190
                  clear A190
                  by_cases c20 : t345 = t346
                  · rw [if_pos c20] at H
                    have c20b0 : (t345 == t346) = true := beq_iff_eq.mpr c20
                    have c20b1 : (t345 != t346) = false := bne_eq_false_iff_eq.mpr c20
                    clear c20
                    obtain rfl := Option.some.inj H
                    go_enter Tryd.func6, Tryd.ntmps6
                    go_wp2_with (first | ((with_reducible refine gate_callee (f := 9) rfl ?_); refine goesL_ (some 15) rfl rfl Tryd.func9 (by kernel_rfl) rfl #[] rfl (by (try simp only [List.map_toArray, List.map_cons, List.map_nil]); first | done | rfl | (simp only [List.length_drop, List.length_take]; rfl)) ?_; (with_reducible refine (boscagelaw05_live.calls k  true _ A2.out).mono ?_); rintro e w21 ⟨rfl, hb⟩; refine ⟨_, rfl, ?_⟩; have n0_ := Aside0.mk (below_step (by repeat (first | (with_reducible first | exact HB.out | apply below_alloc | apply pw_below_drewN | apply below_drew1) | exact HB.out)) hb); clear HB; have HB := n0_; clear n0_; (try clear hb); (try clear hb2); (try clear hk); (try clear hi)) | ((with_reducible refine gate_builtin (b := .append) (xs := #[.const (.slice none 0 0), .tmp 20]) rfl ?_); at_builtin; refine Kd.R_append_rows (Kd.int .u8) (w0 := w) w.heap.size rfl (.const (.slice none 0 0)) (.tmp 20) 26 5 (.int .u8 0) 1 rfl Tryd.underlying26 info5 rfl (by decide) (by omega) (.slice none 0 0) ([] : List Int) l0 _ _ _ (fun _ => True) (fun _ => False) rfl rfl ?aO ?aR (fun _ _ h => h) (fun _ h => h.elim) ?aF ?aB ?aS ?aL ?_; (case aR => repeat (first | exact (Kd.C_below HR0.out HB.out) | (with_reducible refine Kd.C_alloc ?_ _) | (with_reducible refine Kd.C_drewN ?_ _) | (with_reducible refine Kd.C_drew ?_))); (case aB => exact (by repeat (first | (with_reducible first | exact HB.out | apply below_alloc | apply pw_below_drewN | apply below_drew1) | exact HB.out))); (case aF => exact (fun _ _ => trivial)); (case aO => exact ((Kd.R_nil _ _ _ _ (fun _ => True)))); (case aS => exact (below_size (by repeat (first | (with_reducible first | exact HB.out | apply below_alloc | apply pw_below_drewN | apply below_drew1) | exact HB.out)))); (case aL => have := LMc5.out; omega); intro v323 w22 ho hb hg hat; rw [← Ny322.out] at ho; have n0_ := Aside0.mk (hb); have n1_ := Aside0.mk (ho); clear HB; have HB := n0_; have HO324 := n1_; clear n0_ n1_; clear ho hb hg hat; obtain ⟨Ao23, co23, eo23⟩ := Kd.R_slice HO324.out; subst eo23) | ((with_reducible refine gate_callee (f := 17) rfl ?_); refine goesL_ (some 24) rfl rfl Tryd.func17 (by kernel_rfl) rfl #[.slice Ao23 y322.length co23] rfl (by (try simp only [List.map_toArray, List.map_cons, List.map_nil]); first | done | rfl | (simp only [List.length_drop, List.length_take]; rfl)) ?_; (with_reducible refine (code_Decode.calls _ _ y322 t325 t326 t327 _ ?side1 ?side2 A6.out).mono ?_); (case side1 => repeat (first | exact (Kd.R_reads' HO324.out).2.2 | (with_reducible refine Kd.C_alloc ?_ _) | (with_reducible refine Kd.C_drewN ?_ _) | (with_reducible refine Kd.C_drew ?_))); (case side2 => exact (Kd.R_reads' HO324.out).2.1); rintro e w24 ⟨v328, rfl, ho0, hb⟩; refine ⟨_, rfl, ?_⟩; have n0_ := Aside0.mk (Kd.R_below (by (with_reducible repeat (first | apply Kd.R_alloc | apply Kd.R_drewN | apply Kd.R_drew)); exact HO324.out) hb); have n1_ := Aside0.mk (Kd.R_lower ho0 (below_size (by repeat (first | (with_reducible first | exact HB.out | apply below_alloc | apply pw_below_drewN | apply below_drew1) | exact HB.out)))); have n2_ := Aside0.mk (below_step (by repeat (first | (with_reducible first | exact HB.out | apply below_alloc | apply pw_below_drewN | apply below_drew1) | exact HB.out)) hb); clear HO324; clear HB; have HO324 := n0_; have HO329 := n1_; have HB := n2_; clear n0_ n1_ n2_; (try clear hb); (try clear hb2); (try clear hk); (try clear hi); (try clear ho0)) | ((with_reducible refine gate_callee (f := 18) rfl ?_); refine goesL_ (some 30) rfl rfl Tryd.func18 (by kernel_rfl) rfl #[.slice A0 l0.length c0] rfl (by (try simp only [List.map_toArray, List.map_cons, List.map_nil]); first | done | rfl | (simp only [List.length_drop, List.length_take]; rfl)) ?_; (with_reducible refine (boscageref05_Decode.calls k _ _ l0 t330 t331 t332 _ ?side1 ?side2 A7.out).mono ?_); (case side1 => repeat (first | exact (Kd.C_below HR0.out HB.out) | (with_reducible refine Kd.C_alloc ?_ _) | (with_reducible refine Kd.C_drewN ?_ _) | (with_reducible refine Kd.C_drew ?_))); (case side2 => exact HC0.out); rintro e w25 ⟨v333, rfl, ho0, hb⟩; refine ⟨_, rfl, ?_⟩; have n0_ := Aside0.mk (Kd.R_below (by (with_reducible repeat (first | apply Kd.R_alloc | apply Kd.R_drewN | apply Kd.R_drew)); exact HO324.out) hb); have n1_ := Aside0.mk (Kd.R_elder' (by (with_reducible repeat (first | apply Kd.R_alloc | apply Kd.R_drewN | apply Kd.R_drew)); exact HO329.out) (Kd.R_base ho0) hb); have n2_ := Aside0.mk (Kd.R_lower (Kd.R_new' ho0 (Kd.R_lt (by (with_reducible repeat (first | apply Kd.R_alloc | apply Kd.R_drewN | apply Kd.R_drew)); exact HO329.out))) (below_size (by repeat (first | (with_reducible first | exact HB.out | apply below_alloc | apply pw_below_drewN | apply below_drew1) | exact HB.out)))); have n3_ := Aside0.mk (below_step (by repeat (first | (with_reducible first | exact HB.out | apply below_alloc | apply pw_below_drewN | apply below_drew1) | exact HB.out)) hb); clear HO324; clear HO329; clear HB; have HO324 := n0_; have HO329 := n1_; have HO334 := n2_; have HB := n3_; clear n0_ n1_ n2_ n3_; (try clear hb); (try clear hb2); (try clear hk); (try clear hi); (try clear ho0)) | ((with_reducible refine gate_callee (f := 19) rfl ?_); refine goesL_ (some 36) rfl rfl Tryd.func19 (by kernel_rfl) rfl #[.slice Ao23 y322.length co23] rfl (by (try simp only [List.map_toArray, List.map_cons, List.map_nil]); first | done | rfl | (simp only [List.length_drop, List.length_take]; rfl)) ?_; (with_reducible refine (code_Unkey.calls _ _ y322 t335 t336 _ ?side1 ?side2 A8.out).mono ?_); (case side1 => repeat (first | exact (Kd.R_reads' HO324.out).2.2 | (with_reducible refine Kd.C_alloc ?_ _) | (with_reducible refine Kd.C_drewN ?_ _) | (with_reducible refine Kd.C_drew ?_))); (case side2 => exact (Kd.R_reads' HO324.out).2.1); rintro e w26 ⟨v337, rfl, ho0, hb⟩; refine ⟨_, rfl, ?_⟩; have n0_ := Aside0.mk (Kd.R_below (by (with_reducible repeat (first | apply Kd.R_alloc | apply Kd.R_drewN | apply Kd.R_drew)); exact HO324.out) hb); have n1_ := Aside0.mk (Kd.R_elder' (by (with_reducible repeat (first | apply Kd.R_alloc | apply Kd.R_drewN | apply Kd.R_drew)); exact HO329.out) (Kd.R_base ho0) hb); have n2_ := Aside0.mk (Kd.R_elder' (by (with_reducible repeat (first | apply Kd.R_alloc | apply Kd.R_drewN | apply Kd.R_drew)); exact HO334.out) (Kd.R_base ho0) hb); have n3_ := Aside0.mk (Kd.R_lower (Kd.R_new' (Kd.R_new' ho0 (Kd.R_lt (by (with_reducible repeat (first | apply Kd.R_alloc | apply Kd.R_drewN | apply Kd.R_drew)); exact HO329.out))) (Kd.R_lt (by (with_reducible repeat (first | apply Kd.R_alloc | apply Kd.R_drewN | apply Kd.R_drew)); exact HO334.out))) (below_size (by repeat (first | (with_reducible first | exact HB.out | apply below_alloc | apply pw_below_drewN | apply below_drew1) | exact HB.out)))); have n4_ := Aside0.mk (below_step (by repeat (first | (with_reducible first | exact HB.out | apply below_alloc | apply pw_below_drewN | apply below_drew1) | exact HB.out)) hb); clear HO324; clear HO329; clear HO334; clear HB; have HO324 := n0_; have HO329 := n1_; have HO334 := n2_; have HO338 := n3_; have HB := n4_; clear n0_ n1_ n2_ n3_ n4_; (try clear hb); (try clear hb2); (try clear hk); (try clear hi); (try clear ho0)) | ((with_reducible refine gate_callee (f := 20) rfl ?_); refine goesL_ (some 41) rfl rfl Tryd.func20 (by kernel_rfl) rfl #[.slice A0 l0.length c0] rfl (by (try simp only [List.map_toArray, List.map_cons, List.map_nil]); first | done | rfl | (simp only [List.length_drop, List.length_take]; rfl)) ?_; (with_reducible refine (boscageref05_Unkey.calls k (fun k_ => k_ < w.heap.size) _ _ l0 t339 t342 _ ?side1 A9.out).mono ?_); (case side1 => exact Kd.V_mk HC0.out (Kd.F_below (Kd.C_F (Kd.heap_int .u8) HR0.out) (by repeat (first | (with_reducible first | exact HB.out | apply below_alloc | apply pw_below_drewN | apply below_drew1) | exact HB.out)))); rintro e w27 ⟨v340, rfl, ho0, hb⟩; refine ⟨_, rfl, ?_⟩; have n0_ := Aside0.mk (Kd.R_below (by (with_reducible repeat (first | apply Kd.R_alloc | apply Kd.R_drewN | apply Kd.R_drew)); exact HO324.out) hb); have n1_ := Aside0.mk (Kd.R_elder' (by (with_reducible repeat (first | apply Kd.R_alloc | apply Kd.R_drewN | apply Kd.R_drew)); exact HO329.out) (Kd.R_base ho0) hb); have n2_ := Aside0.mk (Kd.R_elder' (by (with_reducible repeat (first | apply Kd.R_alloc | apply Kd.R_drewN | apply Kd.R_drew)); exact HO334.out) (Kd.R_base ho0) hb); have n3_ := Aside0.mk (Kd.R_elder' (by (with_reducible repeat (first | apply Kd.R_alloc | apply Kd.R_drewN | apply Kd.R_drew)); exact HO338.out) (Kd.R_base ho0) hb); have n4_ := Aside0.mk (Kd.R_lower (Kd.R_new' (Kd.R_new' (Kd.R_new' (Kd.R_mono (ok' := fun k_ => True) ho0 (fun _ hk_ => trivial)) (Kd.R_lt (by (with_reducible repeat (first | apply Kd.R_alloc | apply Kd.R_drewN | apply Kd.R_drew)); exact HO329.out))) (Kd.R_lt (by (with_reducible repeat (first | apply Kd.R_alloc | apply Kd.R_drewN | apply Kd.R_drew)); exact HO334.out))) (Kd.R_lt (by (with_reducible repeat (first | apply Kd.R_alloc | apply Kd.R_drewN | apply Kd.R_drew)); exact HO338.out))) (below_size (by repeat (first | (with_reducible first | exact HB.out | apply below_alloc | apply pw_below_drewN | apply below_drew1) | exact HB.out)))); have n5_ := Aside0.mk (below_step (by repeat (first | (with_reducible first | exact HB.out | apply below_alloc | apply pw_below_drewN | apply below_drew1) | exact HB.out)) hb); clear HO324; clear HO329; clear HO334; clear HO338; clear HB; have HO324 := n0_; have HO329 := n1_; have HO334 := n2_; have HO338 := n3_; have HO341 := n4_; have HB := n5_; clear n0_ n1_ n2_ n3_ n4_ n5_; (try clear hb); (try clear hb2); (try clear hk); (try clear hi); (try clear ho0); obtain ⟨Ao28, co28, eo28⟩ := Kd.R_slice HO329.out; subst eo28; obtain ⟨Ao29, co29, eo29⟩ := Kd.R_slice HO334.out; subst eo29) | (go_at_call 21; (with_reducible refine (boscageref01_SameRow.calls k _ _ t325 _ _ t330 true _ ?side1 ?side2 ?side3 ?side4 A11.out).mono ?_); (case side1 => repeat (first | exact (Kd.R_reads' HO329.out).2.2 | (with_reducible refine Kd.C_alloc ?_ _) | (with_reducible refine Kd.C_drewN ?_ _) | (with_reducible refine Kd.C_drew ?_))); (case side2 => exact (Kd.R_reads' HO329.out).2.1); (case side3 => repeat (first | exact (Kd.R_reads' HO334.out).2.2 | (with_reducible refine Kd.C_alloc ?_ _) | (with_reducible refine Kd.C_drewN ?_ _) | (with_reducible refine Kd.C_drew ?_))); (case side4 => exact (Kd.R_reads' HO334.out).2.1); rintro e w30 ⟨rfl, hb⟩; have n0_ := Aside0.mk (Kd.R_below (by (with_reducible repeat (first | apply Kd.R_alloc | apply Kd.R_drewN | apply Kd.R_drew)); exact HO324.out) hb); have n1_ := Aside0.mk (Kd.R_below (by (with_reducible repeat (first | apply Kd.R_alloc | apply Kd.R_drewN | apply Kd.R_drew)); exact HO329.out) hb); have n2_ := Aside0.mk (Kd.R_below (by (with_reducible repeat (first | apply Kd.R_alloc | apply Kd.R_drewN | apply Kd.R_drew)); exact HO334.out) hb); have n3_ := Aside0.mk (Kd.R_below (by (with_reducible repeat (first | apply Kd.R_alloc | apply Kd.R_drewN | apply Kd.R_drew)); exact HO338.out) hb); have n4_ := Aside0.mk (Kd.R_below (by (with_reducible repeat (first | apply Kd.R_alloc | apply Kd.R_drewN | apply Kd.R_drew)); exact HO341.out) hb); have n5_ := Aside0.mk (below_step (by repeat (first | (with_reducible first | exact HB.out | apply below_alloc | apply pw_below_drewN | apply below_drew1) | exact HB.out)) hb); clear HO324; clear HO329; clear HO334; clear HO338; clear HO341; clear HB; have HO324 := n0_; have HO329 := n1_; have HO334 := n2_; have HO338 := n3_; have HO341 := n4_; have HB := n5_; clear n0_ n1_ n2_ n3_ n4_ n5_; (try clear hb); (try clear hb2); (try clear hk); (try clear hi); obtain ⟨Ao31, co31, eo31⟩ := Kd.R_slice HO338.out; subst eo31; obtain ⟨Ao32, co32, eo32⟩ := Kd.R_slice HO341.out; subst eo32) | (go_at_call 21; (with_reducible refine (boscageref01_SameRow.calls k _ _ t335 _ _ t339 true _ ?side1 ?side2 ?side3 ?side4 A15.out).mono ?_); (case side1 => repeat (first | exact (Kd.R_reads' HO338.out).2.2 | (with_reducible refine Kd.C_alloc ?_ _) | (with_reducible refine Kd.C_drewN ?_ _) | (with_reducible refine Kd.C_drew ?_))); (case side2 => exact (Kd.R_reads' HO338.out).2.1); (case side3 => repeat (first | exact (Kd.R_reads' HO341.out).2.2 | (with_reducible refine Kd.C_alloc ?_ _) | (with_reducible refine Kd.C_drewN ?_ _) | (with_reducible refine Kd.C_drew ?_))); (case side4 => exact (Kd.R_reads' HO341.out).2.1); rintro e w33 ⟨rfl, hb⟩; have n0_ := Aside0.mk (Kd.R_below (by (with_reducible repeat (first | apply Kd.R_alloc | apply Kd.R_drewN | apply Kd.R_drew)); exact HO324.out) hb); have n1_ := Aside0.mk (Kd.R_below (by (with_reducible repeat (first | apply Kd.R_alloc | apply Kd.R_drewN | apply Kd.R_drew)); exact HO329.out) hb); have n2_ := Aside0.mk (Kd.R_below (by (with_reducible repeat (first | apply Kd.R_alloc | apply Kd.R_drewN | apply Kd.R_drew)); exact HO334.out) hb); have n3_ := Aside0.mk (Kd.R_below (by (with_reducible repeat (first | apply Kd.R_alloc | apply Kd.R_drewN | apply Kd.R_drew)); exact HO338.out) hb); have n4_ := Aside0.mk (Kd.R_below (by (with_reducible repeat (first | apply Kd.R_alloc | apply Kd.R_drewN | apply Kd.R_drew)); exact HO341.out) hb); have n5_ := Aside0.mk (below_step (by repeat (first | (with_reducible first | exact HB.out | apply below_alloc | apply pw_below_drewN | apply below_drew1) | exact HB.out)) hb); clear HO324; clear HO329; clear HO334; clear HO338; clear HO341; clear HB; have HO324 := n0_; have HO329 := n1_; have HO334 := n2_; have HO338 := n3_; have HO341 := n4_; have HB := n5_; clear n0_ n1_ n2_ n3_ n4_ n5_; (try clear hb); (try clear hb2); (try clear hk); (try clear hi)) | (go_at_call 16; (with_reducible refine (code_Hash.calls k _ _ y322 t345 _ ?side1 ?side2 A18.out).mono ?_); (case side1 => repeat (first | exact (Kd.R_reads' HO324.out).2.2 | (with_reducible refine Kd.C_alloc ?_ _) | (with_reducible refine Kd.C_drewN ?_ _) | (with_reducible refine Kd.C_drew ?_))); (case side2 => exact (Kd.R_reads' HO324.out).2.1); rintro e w' ⟨rfl, ⟨nd, rfl⟩⟩) | (go_at_call 22; (with_reducible refine (boscageref05_Hash.calls k _ _ l0 t346 _ ?side1 ?side2 A19.out).mono ?_); (case side1 => repeat (first | exact (Kd.C_below HR0.out (by repeat (first | (with_reducible first | exact HB.out | apply below_alloc | apply pw_below_drewN | apply below_drew1) | exact HB.out))) | (with_reducible refine Kd.C_alloc ?_ _) | (with_reducible refine Kd.C_drewN ?_ _) | (with_reducible refine Kd.C_drew ?_))); (case side2 => exact HC0.out); rintro e w' ⟨rfl, ⟨nd, rfl⟩⟩; have hcv34 := own_string (P := Tryd.prog) Tryd.underlying26 Tryd.underlying5 Tryd.underlying9 (Kd.own_of_R HO324.out); have hcv34d := fun nd_ : Nat => own_string (P := Tryd.prog) Tryd.underlying26 Tryd.underlying5 Tryd.underlying9 (Kd.own_of_R (Kd.R_drewN HO324.out nd_)); have hcv35 := Kd.C_string (P := Tryd.prog) (A := A0) (c := c0) Tryd.underlying26 Tryd.underlying5 Tryd.underlying9 (Kd.C_below HR0.out HB.out); have hcv35d := fun nd_ : Nat => Kd.C_string (P := Tryd.prog) (A := A0) (c := c0) Tryd.underlying26 Tryd.underlying5 Tryd.underlying9 (Kd.C_drewN (Kd.C_below HR0.out HB.out) nd_)))
                    go_ret
                    exact ⟨by first | rfl | (simp [errW_none, errW_some] <;> rfl) | (simp [*, errW_none, errW_some] <;> rfl), by repeat (first | (with_reducible first | exact HB.out | apply below_alloc | apply pw_below_drewN | apply below_drew1) | exact HB.out)⟩
                  · rw [if_neg c20] at H
                    have c20b0 : (t345 == t346) = false := beq_eq_false_iff_ne.mpr c20
                    have c20b1 : (t345 != t346) = true := bne_iff_ne.mpr c20
                    exact absurd ((Option.some.inj H).trans HRT.out) Bool.false_ne_true
                · rw [if_neg c17] at H
                  have c17b0 : (t336 == t342) = false := beq_eq_false_iff_ne.mpr c17
                  have c17b1 : (t336 != t342) = true := bne_iff_ne.mpr c17
                  exact absurd ((Option.some.inj H).trans HRT.out) Bool.false_ne_true
              · replace c16 := Bool.eq_false_iff.mpr c16
                subst c16
                have H1 : (some false) = some r := by rw [if_neg (show ¬ (false = true) by decide)] at H; exact H
                clear H
                have H := H1
                clear H1
                exact absurd ((Option.some.inj H).trans HRT.out) Bool.false_ne_true
            · rw [if_neg c14] at H
              have c14b0 : (t327 == t332) = false := beq_eq_false_iff_ne.mpr c14
              have c14b1 : (t327 != t332) = true := bne_iff_ne.mpr c14
              exact absurd ((Option.some.inj H).trans HRT.out) Bool.false_ne_true
          · rw [if_neg c13] at H
            have c13b0 : (t326 == t331) = false := beq_eq_false_iff_ne.mpr c13
            have c13b1 : (t326 != t331) = true := bne_iff_ne.mpr c13
            exact absurd ((Option.some.inj H).trans HRT.out) Bool.false_ne_true
        · replace c12 := Bool.eq_false_iff.mpr c12
          subst c12
          have H1 : (some false) = some r := by rw [if_neg (show ¬ (false = true) by decide)] at H; exact H
          clear H
          have H := H1
          clear H1
          exact absurd ((Option.some.inj H).trans HRT.out) Bool.false_ne_true
      · replace c10 := Bool.eq_false_iff.mpr c10
        subst c10
        have H1 : (some false) = some r := by rw [if_neg (show ¬ (false = true) by decide)] at H; exact H
        clear H
        have H := H1
        clear H1
        exact absurd ((Option.some.inj H).trans HRT.out) Bool.false_ne_true
    · rw [if_neg c5] at H
      exact absurd H (by simp)

/-- THE ONE PURE STATEMENT of boscagelaw05_CodeReads: yours. -/
def boscagelaw05_CodeReads.Pure : Prop := ∀ (l0 : List Int), l0.length ≤ maxLen → l0.length * 1 ≤ 140737488351232 → (∀ x ∈ l0, (Lit.int .u8 x).wf = true) → ∃ k, boscagelaw05_CodeReads.f k l0 = some true
theorem boscagelaw05_CodeReads.walk (P : boscagelaw05_CodeReads.Pure) (a0 : Option Addr) (len0 cap0 : Nat) (z0 : List Int) (w : World) (w0 : (a0 = none ∧ len0 = 0 ∧ cap0 = 0 ∧ z0 = []) ∨ ∃ x, a0 = some x ∧ len0 ≤ cap0 ∧ cap0 ≤ maxLen ∧ z0.length = cap0 ∧ (∀ i, i < z0.length → w.cell? (x.add i) = some (.int .u8 (z0.getD i 0))) ∧ ∀ n ∈ z0, (Lit.int .u8 n).wf = true) (y0 : len0 * 1 ≤ 140737488351232) :
    Calls Tryd.prog 6 #[.slice a0 len0 cap0] w fun e w' => e = .returned (.bool true) ∧ Below w.heap.size w w' := by
  obtain ⟨l0, rfl, hr0, hm0, hw0, hc0⟩ := ReadsInt.ofRowC w0
  obtain ⟨k, h⟩ := P l0 hm0 y0 hw0
  refine (boscagelaw05_CodeReads.calls k _ _ l0 true w (Kd.C_of_reads (d := (0 : Int)) (h1 := fun _ => rfl) hr0) hc0 h rfl).mono ?_
  rintro e w' ⟨rfl, hd⟩
  exact ⟨rfl, hd⟩

end Go.Proofs.YtbojfgjdpfobaaaDoor.QCR
