-- printed by our own turn of the print (wip/pr)
import Derived.Test.YtbojfgjdpfobaaaDoorQCRx0
import Derived.Test.YtbojfgjdpfobaaaDoorQCRx3
import Derived.Test.YtbojfgjdpfobaaaDoorQCRx4
namespace Go.Proofs.YtbojfgjdpfobaaaDoor.QCR
open Go.RowKit Go.Proofs.YtbojfgjdpfobaaaDoorW.PrintWords Go.Proofs.YtbojfgjdpfobaaaDoorW.PrintLast Go.Proofs.YtbojfgjdpfobaaaDoorW.PrintMore
attribute [local go_sem] max2_int min2_int max_two min_two max_three min_three max_four min_four   -- for this text's walks alone
set_option linter.unusedVariables false
set_option linter.unusedSimpArgs false

/-! ### boscageref01_Int1: function 23 -/

def boscageref01_Int1.f (a0 : Int) : Option (Int × Int × ByteArray) := some (2, a0, (⟨#[]⟩ : ByteArray))
set_option maxHeartbeats 400000 in
set_option maxRecDepth 100000 in
theorem boscageref01_Int1.calls (a0 : Int) (r1 : Int) (r2 : Int) (r3 : ByteArray) (w : World) (h : boscageref01_Int1.f a0 = some (r1, r2, r3)) :
    Calls Tryd.prog 23 #[.int .i64 a0] w fun e w' => e = .returned (.agg #[.int .i64 r1, .int .i64 r2, .string r3]) ∧ Below w.heap.size w w' := by
  simp only [boscageref01_Int1.f, Option.some.injEq, Prod.mk.injEq] at h
  obtain ⟨rfl, rfl, rfl⟩ := h
  go_enter Tryd.func23, Tryd.ntmps23
  go_wp2
  refine bodyPost_ret (v := .agg #[.int .i64 2, .int .i64 a0, .string (⟨#[]⟩ : ByteArray)]) (by simp [results, Tryd.results23, go_sem]) rfl ⟨rfl, ?_⟩
  repeat (first | exact Below.refl _ _ | (refine Below.alloc ?_ (by simp) _))

/-! ### boscageref01_Text1: function 24 -/

def boscageref01_Text1.f (a0 : ByteArray) : Option (Int × Int × ByteArray) := some (3, 0, a0)
set_option maxHeartbeats 400000 in
set_option maxRecDepth 100000 in
theorem boscageref01_Text1.calls (a0 : ByteArray) (r1 : Int) (r2 : Int) (r3 : ByteArray) (w : World) (h : boscageref01_Text1.f a0 = some (r1, r2, r3)) :
    Calls Tryd.prog 24 #[.string a0] w fun e w' => e = .returned (.agg #[.int .i64 r1, .int .i64 r2, .string r3]) ∧ Below w.heap.size w w' := by
  simp only [boscageref01_Text1.f, Option.some.injEq, Prod.mk.injEq] at h
  obtain ⟨rfl, rfl, rfl⟩ := h
  go_enter Tryd.func24, Tryd.ntmps24
  go_wp2
  refine bodyPost_ret (v := .agg #[.int .i64 3, .int .i64 0, .string a0]) (by simp [results, Tryd.results24, go_sem]) rfl ⟨rfl, ?_⟩
  repeat (first | exact Below.refl _ _ | (refine Below.alloc ?_ (by simp) _))

/-! ### boscagelaw05_live: function 9 -/
def boscagelaw05_live.f (k : Nat)  : Option (Bool) := (boscageref01_Int1.f 1).bind fun bt190 => ((some (([(⟨bt190.1, bt190.2.1, bt190.2.2⟩ : S43), (⟨0, 0, (⟨#[]⟩ : ByteArray)⟩ : S43)] : List (S43)) : List (S43))).bind fun y193 => ((code_Encode.f k y193).bind fun bt196 => ((code_Key.f k y193).bind fun bt200 => ((boscageref01_Text1.f (⟨#[97]⟩ : ByteArray)).bind fun bt204 => ((code_Key.f k (([(⟨bt204.1, bt204.2.1, bt204.2.2⟩ : S43)] : List (S43)))).bind fun bt210 => (if (strOfNums bt196.1).toList = ([2, 2, 0, 0, 0, 0, 0, 0, 0, 1, 0] : List UInt8) then (if bt196.2 = 0 then (if (strOfNums bt200.1).toList = ([2, 128, 0, 0, 0, 0, 0, 0, 1, 0] : List UInt8) then (if bt200.2 = 0 then (if (strOfNums bt210.1).toList = ([3, 97, 0, 0] : List UInt8) then (if bt210.2 = 0 then ((code_Hash.f k ([] : List Int)).bind fun t214 => (some (t214 == 14695981039346656037))) else (some false)) else (some false)) else (some false)) else (some false)) else (some false)) else (some false)))))))
theorem boscagelaw05_live.mono : ∀ k, LeO (boscagelaw05_live.f k ) (boscagelaw05_live.f (k + 1) ) := by
  intro  k
  unfold boscagelaw05_live.f
  repeat' first
      | (with_reducible exact code_Encode.mono _ _)
      | (with_reducible exact code_Hash.mono _ _)
      | (with_reducible exact code_Key.mono _ _)
      | (with_reducible exact LeO.refl _)
      | (with_reducible exact LeO.none _)
      | (with_reducible refine LeO.ite ?_ ?_)
      | (with_reducible refine LeO.bind ?_ (fun _ => ?_))
      | exact code_Encode.mono _ _
      | exact code_Hash.mono _ _
      | exact code_Key.mono _ _
      | exact LeO.none _
      | refine LeO.ite ?_ ?_
      | refine LeO.bind ?_ (fun _ => ?_)
theorem boscagelaw05_live.only (k : Nat) (r : Bool) (h : boscagelaw05_live.f k = some r) : r = true := by
  have h1 : boscagelaw05_live.f 80 = some true := by decide +kernel
  have h2 := at_rounds (fun k => boscagelaw05_live.mono k) (Nat.le_max_left k 80) h
  have h3 := at_rounds (fun k => boscagelaw05_live.mono k) (Nat.le_max_right k 80) h1
  rw [h2] at h3
  exact Option.some.inj h3
set_option maxHeartbeats 8000000 in
set_option maxRecDepth 100000 in
theorem boscagelaw05_live.calls (k : Nat)  (r : Bool) (w : World) (h : boscagelaw05_live.f k  = some r) :
    Calls Tryd.prog 9 #[] w fun e w' => e = .returned (.bool r) ∧ Below w.heap.size w w' := by
  have hu43 := Tryd.underlying43
  have HB := Aside0.mk (Below.refl w.heap.size w)
  have HRT := Aside0.mk (boscagelaw05_live.only k r h)
  have H : ((boscageref01_Int1.f 1).bind fun bt190 => ((some (([(⟨bt190.1, bt190.2.1, bt190.2.2⟩ : S43), (⟨0, 0, (⟨#[]⟩ : ByteArray)⟩ : S43)] : List (S43)) : List (S43))).bind fun y193 => ((code_Encode.f k y193).bind fun bt196 => ((code_Key.f k y193).bind fun bt200 => ((boscageref01_Text1.f (⟨#[97]⟩ : ByteArray)).bind fun bt204 => ((code_Key.f k (([(⟨bt204.1, bt204.2.1, bt204.2.2⟩ : S43)] : List (S43)))).bind fun bt210 => (if (strOfNums bt196.1).toList = ([2, 2, 0, 0, 0, 0, 0, 0, 0, 1, 0] : List UInt8) then (if bt196.2 = 0 then (if (strOfNums bt200.1).toList = ([2, 128, 0, 0, 0, 0, 0, 0, 1, 0] : List UInt8) then (if bt200.2 = 0 then (if (strOfNums bt210.1).toList = ([3, 97, 0, 0] : List UInt8) then (if bt210.2 = 0 then ((code_Hash.f k ([] : List Int)).bind fun t214 => (some (t214 == 14695981039346656037))) else (some false)) else (some false)) else (some false)) else (some false)) else (some false)) else (some false)))))))) = some r := h
  clear h
  replace H := Option.bind_eq_some_iff.mp H
  obtain ⟨⟨t190, t191, t192⟩, A10, H⟩ := H
  replace H : ((some (([(⟨t190, t191, t192⟩ : S43), (⟨0, 0, (⟨#[]⟩ : ByteArray)⟩ : S43)] : List (S43)) : List (S43))).bind fun y193 => ((code_Encode.f k y193).bind fun bt196 => ((code_Key.f k y193).bind fun bt200 => ((boscageref01_Text1.f (⟨#[97]⟩ : ByteArray)).bind fun bt204 => ((code_Key.f k (([(⟨bt204.1, bt204.2.1, bt204.2.2⟩ : S43)] : List (S43)))).bind fun bt210 => (if (strOfNums bt196.1).toList = ([2, 2, 0, 0, 0, 0, 0, 0, 0, 1, 0] : List UInt8) then (if bt196.2 = 0 then (if (strOfNums bt200.1).toList = ([2, 128, 0, 0, 0, 0, 0, 0, 1, 0] : List UInt8) then (if bt200.2 = 0 then (if (strOfNums bt210.1).toList = ([3, 97, 0, 0] : List UInt8) then (if bt210.2 = 0 then ((code_Hash.f k ([] : List Int)).bind fun t214 => (some (t214 == 14695981039346656037))) else (some false)) else (some false)) else (some false)) else (some false)) else (some false)) else (some false))))))) = some r := H
  have A1 := Aside0.mk A10
  clear A10
  obtain ⟨y193, hy193⟩ : ∃ y_ : List (S43), y_ = (([(⟨t190, t191, t192⟩ : S43), (⟨0, 0, (⟨#[]⟩ : ByteArray)⟩ : S43)] : List (S43))) := ⟨_, rfl⟩
  replace H : ((code_Encode.f k y193).bind fun bt196 => ((code_Key.f k y193).bind fun bt200 => ((boscageref01_Text1.f (⟨#[97]⟩ : ByteArray)).bind fun bt204 => ((code_Key.f k (([(⟨bt204.1, bt204.2.1, bt204.2.2⟩ : S43)] : List (S43)))).bind fun bt210 => (if (strOfNums bt196.1).toList = ([2, 2, 0, 0, 0, 0, 0, 0, 0, 1, 0] : List UInt8) then (if bt196.2 = 0 then (if (strOfNums bt200.1).toList = ([2, 128, 0, 0, 0, 0, 0, 0, 1, 0] : List UInt8) then (if bt200.2 = 0 then (if (strOfNums bt210.1).toList = ([3, 97, 0, 0] : List UInt8) then (if bt210.2 = 0 then ((code_Hash.f k ([] : List Int)).bind fun t214 => (some (t214 == 14695981039346656037))) else (some false)) else (some false)) else (some false)) else (some false)) else (some false)) else (some false)))))) = some r := by first | (rw [hy193]; with_reducible exact H) | (have H2_ := (Option.bind_some _ _).symm.trans H; rw [hy193]; with_reducible exact H2_) | (have H2_ := (Option.bind_some _ _).symm.trans H; with_reducible exact H2_) | with_reducible exact H | (rw [hy193]; exact H) | exact H
  have Ny193 := Aside0.mk hy193
  clear hy193
  replace H := Option.bind_eq_some_iff.mp H
  obtain ⟨⟨t196, t197⟩, A20, H⟩ := H
  replace H : ((code_Key.f k y193).bind fun bt200 => ((boscageref01_Text1.f (⟨#[97]⟩ : ByteArray)).bind fun bt204 => ((code_Key.f k (([(⟨bt204.1, bt204.2.1, bt204.2.2⟩ : S43)] : List (S43)))).bind fun bt210 => (if (strOfNums t196).toList = ([2, 2, 0, 0, 0, 0, 0, 0, 0, 1, 0] : List UInt8) then (if t197 = 0 then (if (strOfNums bt200.1).toList = ([2, 128, 0, 0, 0, 0, 0, 0, 1, 0] : List UInt8) then (if bt200.2 = 0 then (if (strOfNums bt210.1).toList = ([3, 97, 0, 0] : List UInt8) then (if bt210.2 = 0 then ((code_Hash.f k ([] : List Int)).bind fun t214 => (some (t214 == 14695981039346656037))) else (some false)) else (some false)) else (some false)) else (some false)) else (some false)) else (some false))))) = some r := H
  have A2 := Aside0.mk A20
  clear A20
  replace H := Option.bind_eq_some_iff.mp H
  obtain ⟨⟨t200, t201⟩, A30, H⟩ := H
  replace H : ((boscageref01_Text1.f (⟨#[97]⟩ : ByteArray)).bind fun bt204 => ((code_Key.f k (([(⟨bt204.1, bt204.2.1, bt204.2.2⟩ : S43)] : List (S43)))).bind fun bt210 => (if (strOfNums t196).toList = ([2, 2, 0, 0, 0, 0, 0, 0, 0, 1, 0] : List UInt8) then (if t197 = 0 then (if (strOfNums t200).toList = ([2, 128, 0, 0, 0, 0, 0, 0, 1, 0] : List UInt8) then (if t201 = 0 then (if (strOfNums bt210.1).toList = ([3, 97, 0, 0] : List UInt8) then (if bt210.2 = 0 then ((code_Hash.f k ([] : List Int)).bind fun t214 => (some (t214 == 14695981039346656037))) else (some false)) else (some false)) else (some false)) else (some false)) else (some false)) else (some false)))) = some r := H
  have A3 := Aside0.mk A30
  clear A30
  replace H := Option.bind_eq_some_iff.mp H
  obtain ⟨⟨t204, t205, t206⟩, A40, H⟩ := H
  replace H : ((code_Key.f k (([(⟨t204, t205, t206⟩ : S43)] : List (S43)))).bind fun bt210 => (if (strOfNums t196).toList = ([2, 2, 0, 0, 0, 0, 0, 0, 0, 1, 0] : List UInt8) then (if t197 = 0 then (if (strOfNums t200).toList = ([2, 128, 0, 0, 0, 0, 0, 0, 1, 0] : List UInt8) then (if t201 = 0 then (if (strOfNums bt210.1).toList = ([3, 97, 0, 0] : List UInt8) then (if bt210.2 = 0 then ((code_Hash.f k ([] : List Int)).bind fun t214 => (some (t214 == 14695981039346656037))) else (some false)) else (some false)) else (some false)) else (some false)) else (some false)) else (some false))) = some r := H
  have A4 := Aside0.mk A40
  clear A40
  obtain ⟨y207, hy207⟩ : ∃ y_ : List (S43), y_ = (([(⟨t204, t205, t206⟩ : S43)] : List (S43))) := ⟨_, rfl⟩
  replace H : ((code_Key.f k y207).bind fun bt210 => (if (strOfNums t196).toList = ([2, 2, 0, 0, 0, 0, 0, 0, 0, 1, 0] : List UInt8) then (if t197 = 0 then (if (strOfNums t200).toList = ([2, 128, 0, 0, 0, 0, 0, 0, 1, 0] : List UInt8) then (if t201 = 0 then (if (strOfNums bt210.1).toList = ([3, 97, 0, 0] : List UInt8) then (if bt210.2 = 0 then ((code_Hash.f k ([] : List Int)).bind fun t214 => (some (t214 == 14695981039346656037))) else (some false)) else (some false)) else (some false)) else (some false)) else (some false)) else (some false))) = some r := by first | (rw [hy207]; with_reducible exact H) | (have H2_ := (Option.bind_some _ _).symm.trans H; rw [hy207]; with_reducible exact H2_) | (have H2_ := (Option.bind_some _ _).symm.trans H; with_reducible exact H2_) | with_reducible exact H | (rw [hy207]; exact H) | exact H
  have Ny207 := Aside0.mk hy207
  clear hy207
  replace H := Option.bind_eq_some_iff.mp H
  obtain ⟨⟨t210, t211⟩, A50, H⟩ := H
  replace H : (if (strOfNums t196).toList = ([2, 2, 0, 0, 0, 0, 0, 0, 0, 1, 0] : List UInt8) then (if t197 = 0 then (if (strOfNums t200).toList = ([2, 128, 0, 0, 0, 0, 0, 0, 1, 0] : List UInt8) then (if t201 = 0 then (if (strOfNums t210).toList = ([3, 97, 0, 0] : List UInt8) then (if t211 = 0 then ((code_Hash.f k ([] : List Int)).bind fun t214 => (some (t214 == 14695981039346656037))) else (some false)) else (some false)) else (some false)) else (some false)) else (some false)) else (some false)) = some r := H
  have A5 := Aside0.mk A50
  clear A50
  by_cases c6 : (strOfNums t196).toList = ([2, 2, 0, 0, 0, 0, 0, 0, 0, 1, 0] : List UInt8)
  · rw [if_pos c6] at H
    have c6b0 : ((strOfNums t196).toList == ([2, 2, 0, 0, 0, 0, 0, 0, 0, 1, 0] : List UInt8)) = true := beq_iff_eq.mpr c6
    have c6b1 : ((strOfNums t196).toList != ([2, 2, 0, 0, 0, 0, 0, 0, 0, 1, 0] : List UInt8)) = false := bne_eq_false_iff_eq.mpr c6
    clear c6
    by_cases c7 : t197 = 0
    · rw [if_pos c7] at H
      have c7b0 : (t197 == 0) = true := beq_iff_eq.mpr c7
      have c7b1 : (t197 != 0) = false := bne_eq_false_iff_eq.mpr c7
      clear c7
      by_cases c8 : (strOfNums t200).toList = ([2, 128, 0, 0, 0, 0, 0, 0, 1, 0] : List UInt8)
      · rw [if_pos c8] at H
        have c8b0 : ((strOfNums t200).toList == ([2, 128, 0, 0, 0, 0, 0, 0, 1, 0] : List UInt8)) = true := beq_iff_eq.mpr c8
        have c8b1 : ((strOfNums t200).toList != ([2, 128, 0, 0, 0, 0, 0, 0, 1, 0] : List UInt8)) = false := bne_eq_false_iff_eq.mpr c8
        clear c8
        by_cases c9 : t201 = 0
        · rw [if_pos c9] at H
          have c9b0 : (t201 == 0) = true := beq_iff_eq.mpr c9
          have c9b1 : (t201 != 0) = false := bne_eq_false_iff_eq.mpr c9
          clear c9
          by_cases c10 : (strOfNums t210).toList = ([3, 97, 0, 0] : List UInt8)
          · rw [if_pos c10] at H
            have c10b0 : ((strOfNums t210).toList == ([3, 97, 0, 0] : List UInt8)) = true := beq_iff_eq.mpr c10
            have c10b1 : ((strOfNums t210).toList != ([3, 97, 0, 0] : List UInt8)) = false := bne_eq_false_iff_eq.mpr c10
            clear c10
            by_cases c11 : t211 = 0
            · rw [if_pos c11] at H
              have c11b0 : (t211 == 0) = true := beq_iff_eq.mpr c11
              have c11b1 : (t211 != 0) = false := bne_eq_false_iff_eq.mpr c11
              clear c11
              replace H := Option.bind_eq_some_iff.mp H
              obtain ⟨t214, A120, H⟩ := H
              replace H : (some (t214 == 14695981039346656037)) = some r := H
              have A12 := Aside0.mk A120
              clear A120
              obtain rfl := Option.some.inj H
              go_enter Tryd.func9, Tryd.ntmps9
              go_wp2_with (first | ((with_reducible refine gate_callee (f := 23) rfl ?_); refine goesL_ (some 8) rfl rfl Tryd.func23 (by kernel_rfl) rfl #[.int .i64 1] rfl (by (try simp only [List.map_toArray, List.map_cons, List.map_nil]); first | done | rfl | (simp only [List.length_drop, List.length_take]; rfl)) ?_; (with_reducible refine (boscageref01_Int1.calls 1 t190 t191 t192 _ A1.out).mono ?_); rintro e w13 ⟨rfl, hb⟩; refine ⟨_, rfl, ?_⟩; have n0_ := Aside0.mk (below_step (by repeat (first | (with_reducible first | exact HB.out | apply below_alloc | apply pw_below_drewN | apply below_drew1) | exact HB.out)) hb); clear HB; have HB := n0_; clear n0_; (try clear hb); (try clear hb2); (try clear hk); (try clear hi)) | ((with_reducible refine gate_dst (N := 10) rfl ?_); refine Kd.R_lit k43 _ 43 ?hg (N := 10) ?hd (xs := ([(⟨t190, t191, t192⟩ : S43), (⟨0, 0, (⟨#[]⟩ : ByteArray)⟩ : S43)] : List (S43))) (inner := [.int .i64 t190, .int .i64 t191, .string t192, .int .i64 0, .int .i64 0, .string (⟨#[]⟩ : ByteArray)]) (ok := fun _ => True) (okp := fun _ => True) ?hr ?hp (fun _ hk => hk) trivial (Below.refl _ _) (Nat.le_refl _) (by simp) ?_; (case hd => rfl); (case hg => rfl); (case hr => first | (go_simp; done) | (go_simp; rfl)); (case hp => exact (Reps.c3 (show Kd.M k43 _ _ _ (⟨t190, t191, t192⟩ : S43) [.int .i64 t190, .int .i64 t191, .string t192] from (k43_mkM _ _ _ (⟨t190, t191, t192⟩ : S43) )) (Reps.c3 (show Kd.M k43 _ _ _ (⟨0, 0, (⟨#[]⟩ : ByteArray)⟩ : S43) [.int .i64 0, .int .i64 0, .string (⟨#[]⟩ : ByteArray)] from (k43_mkM _ _ _ (⟨0, 0, (⟨#[]⟩ : ByteArray)⟩ : S43) )) (Reps.none _ _)))); intro v194 w14 ho15 hb hg_ hnew_; clear hg_ hnew_; (first | rw [← Ny193.out] at ho15 | (simp only [Int.reduceToNat] at ho15; rw [← Ny193.out] at ho15)); have n0_ := Aside0.mk (Kd.R_lower ho15 (below_size (by repeat (first | (with_reducible first | exact HB.out | apply below_alloc | apply pw_below_drewN | apply below_drew1) | exact HB.out)))); have n1_ := Aside0.mk (below_step (by repeat (first | (with_reducible first | exact HB.out | apply below_alloc | apply pw_below_drewN | apply below_drew1) | exact HB.out)) hb); clear HB; have HO195 := n0_; have HB := n1_; clear n0_ n1_; clear hb ho15; obtain ⟨Ao16, co16, eo16⟩ := Kd.R_slice HO195.out; subst eo16) | ((with_reducible refine gate_callee (f := 11) rfl ?_); refine goesL_ (some 13) rfl rfl Tryd.func11 (by kernel_rfl) rfl #[.slice Ao16 y193.length co16] rfl (by (try simp only [List.map_toArray, List.map_cons, List.map_nil]); first | done | rfl | (simp only [List.length_drop, List.length_take]; rfl)) ?_; (with_reducible refine (code_Encode.calls k _ _ y193 t196 t197 _ ?side1 ?side2 A2.out).mono ?_); (case side1 => repeat (first | exact (Kd.R_reads' HO195.out).2.2 | (with_reducible refine Kd.C_alloc ?_ _) | (with_reducible refine Kd.C_drewN ?_ _) | (with_reducible refine Kd.C_drew ?_))); (case side2 => exact (Kd.R_reads' HO195.out).2.1); rintro e w17 ⟨v198, rfl, ho0, hb⟩; refine ⟨_, rfl, ?_⟩; have n0_ := Aside0.mk (Kd.R_below (by (with_reducible repeat (first | apply Kd.R_alloc | apply Kd.R_drewN | apply Kd.R_drew)); exact HO195.out) hb); have n1_ := Aside0.mk (Kd.R_lower ho0 (below_size (by repeat (first | (with_reducible first | exact HB.out | apply below_alloc | apply pw_below_drewN | apply below_drew1) | exact HB.out)))); have n2_ := Aside0.mk (below_step (by repeat (first | (with_reducible first | exact HB.out | apply below_alloc | apply pw_below_drewN | apply below_drew1) | exact HB.out)) hb); clear HO195; clear HB; have HO195 := n0_; have HO199 := n1_; have HB := n2_; clear n0_ n1_ n2_; (try clear hb); (try clear hb2); (try clear hk); (try clear hi); (try clear ho0)) | ((with_reducible refine gate_callee (f := 13) rfl ?_); refine goesL_ (some 18) rfl rfl Tryd.func13 (by kernel_rfl) rfl #[.slice Ao16 y193.length co16] rfl (by (try simp only [List.map_toArray, List.map_cons, List.map_nil]); first | done | rfl | (simp only [List.length_drop, List.length_take]; rfl)) ?_; (with_reducible refine (code_Key.calls k _ _ y193 t200 t201 _ ?side1 ?side2 A3.out).mono ?_); (case side1 => repeat (first | exact (Kd.R_reads' HO195.out).2.2 | (with_reducible refine Kd.C_alloc ?_ _) | (with_reducible refine Kd.C_drewN ?_ _) | (with_reducible refine Kd.C_drew ?_))); (case side2 => exact (Kd.R_reads' HO195.out).2.1); rintro e w18 ⟨v202, rfl, ho0, hb⟩; refine ⟨_, rfl, ?_⟩; have n0_ := Aside0.mk (Kd.R_below (by (with_reducible repeat (first | apply Kd.R_alloc | apply Kd.R_drewN | apply Kd.R_drew)); exact HO195.out) hb); have n1_ := Aside0.mk (Kd.R_elder' (by (with_reducible repeat (first | apply Kd.R_alloc | apply Kd.R_drewN | apply Kd.R_drew)); exact HO199.out) (Kd.R_base ho0) hb); have n2_ := Aside0.mk (Kd.R_lower (Kd.R_new' ho0 (Kd.R_lt (by (with_reducible repeat (first | apply Kd.R_alloc | apply Kd.R_drewN | apply Kd.R_drew)); exact HO199.out))) (below_size (by repeat (first | (with_reducible first | exact HB.out | apply below_alloc | apply pw_below_drewN | apply below_drew1) | exact HB.out)))); have n3_ := Aside0.mk (below_step (by repeat (first | (with_reducible first | exact HB.out | apply below_alloc | apply pw_below_drewN | apply below_drew1) | exact HB.out)) hb); clear HO195; clear HO199; clear HB; have HO195 := n0_; have HO199 := n1_; have HO203 := n2_; have HB := n3_; clear n0_ n1_ n2_ n3_; (try clear hb); (try clear hb2); (try clear hk); (try clear hi); (try clear ho0)) | ((with_reducible refine gate_callee (f := 24) rfl ?_); refine goesL_ (some 22) rfl rfl Tryd.func24 (by kernel_rfl) rfl #[.string (⟨#[97]⟩ : ByteArray)] rfl (by (try simp only [List.map_toArray, List.map_cons, List.map_nil]); first | done | rfl | (simp only [List.length_drop, List.length_take]; rfl)) ?_; (with_reducible refine (boscageref01_Text1.calls (⟨#[97]⟩ : ByteArray) t204 t205 t206 _ A4.out).mono ?_); rintro e w19 ⟨rfl, hb⟩; refine ⟨_, rfl, ?_⟩; have n0_ := Aside0.mk (Kd.R_below (by (with_reducible repeat (first | apply Kd.R_alloc | apply Kd.R_drewN | apply Kd.R_drew)); exact HO195.out) hb); have n1_ := Aside0.mk (Kd.R_below (by (with_reducible repeat (first | apply Kd.R_alloc | apply Kd.R_drewN | apply Kd.R_drew)); exact HO199.out) hb); have n2_ := Aside0.mk (Kd.R_below (by (with_reducible repeat (first | apply Kd.R_alloc | apply Kd.R_drewN | apply Kd.R_drew)); exact HO203.out) hb); have n3_ := Aside0.mk (below_step (by repeat (first | (with_reducible first | exact HB.out | apply below_alloc | apply pw_below_drewN | apply below_drew1) | exact HB.out)) hb); clear HO195; clear HO199; clear HO203; clear HB; have HO195 := n0_; have HO199 := n1_; have HO203 := n2_; have HB := n3_; clear n0_ n1_ n2_ n3_; (try clear hb); (try clear hb2); (try clear hk); (try clear hi)) | ((with_reducible refine gate_dst (N := 23) rfl ?_); refine Kd.R_lit k43 _ 43 ?hg (N := 23) ?hd (xs := ([(⟨t204, t205, t206⟩ : S43)] : List (S43))) (inner := [.int .i64 t204, .int .i64 t205, .string t206]) (ok := fun _ => True) (okp := fun _ => True) ?hr ?hp (fun _ hk => hk) trivial (Below.refl _ _) (Nat.le_refl _) (by simp) ?_; (case hd => rfl); (case hg => rfl); (case hr => first | (go_simp; done) | (go_simp; rfl)); (case hp => exact (Reps.c3 (show Kd.M k43 _ _ _ (⟨t204, t205, t206⟩ : S43) [.int .i64 t204, .int .i64 t205, .string t206] from (k43_mkM _ _ _ (⟨t204, t205, t206⟩ : S43) )) (Reps.none _ _))); intro v208 w20 ho21 hb hg_ hnew_; clear hg_ hnew_; (first | rw [← Ny207.out] at ho21 | (simp only [Int.reduceToNat] at ho21; rw [← Ny207.out] at ho21)); have n0_ := Aside0.mk (Kd.R_elder' (by (with_reducible repeat (first | apply Kd.R_alloc | apply Kd.R_drewN | apply Kd.R_drew)); exact HO195.out) (Kd.R_base ho21) hb); have n1_ := Aside0.mk (Kd.R_below (by (with_reducible repeat (first | apply Kd.R_alloc | apply Kd.R_drewN | apply Kd.R_drew)); exact HO199.out) hb); have n2_ := Aside0.mk (Kd.R_below (by (with_reducible repeat (first | apply Kd.R_alloc | apply Kd.R_drewN | apply Kd.R_drew)); exact HO203.out) hb); have n3_ := Aside0.mk (Kd.R_lower (Kd.R_new' ho21 (Kd.R_lt (by (with_reducible repeat (first | apply Kd.R_alloc | apply Kd.R_drewN | apply Kd.R_drew)); exact HO195.out))) (below_size (by repeat (first | (with_reducible first | exact HB.out | apply below_alloc | apply pw_below_drewN | apply below_drew1) | exact HB.out)))); have n4_ := Aside0.mk (below_step (by repeat (first | (with_reducible first | exact HB.out | apply below_alloc | apply pw_below_drewN | apply below_drew1) | exact HB.out)) hb); clear HO195; clear HO199; clear HO203; clear HB; have HO195 := n0_; have HO199 := n1_; have HO203 := n2_; have HO209 := n3_; have HB := n4_; clear n0_ n1_ n2_ n3_ n4_; clear hb ho21; obtain ⟨Ao22, co22, eo22⟩ := Kd.R_slice HO209.out; subst eo22) | ((with_reducible refine gate_callee (f := 13) rfl ?_); refine goesL_ (some 24) rfl rfl Tryd.func13 (by kernel_rfl) rfl #[.slice Ao22 y207.length co22] rfl (by (try simp only [List.map_toArray, List.map_cons, List.map_nil]); first | done | rfl | (simp only [List.length_drop, List.length_take]; rfl)) ?_; (with_reducible refine (code_Key.calls k _ _ y207 t210 t211 _ ?side1 ?side2 A5.out).mono ?_); (case side1 => repeat (first | exact (Kd.R_reads' HO209.out).2.2 | (with_reducible refine Kd.C_alloc ?_ _) | (with_reducible refine Kd.C_drewN ?_ _) | (with_reducible refine Kd.C_drew ?_))); (case side2 => exact (Kd.R_reads' HO209.out).2.1); rintro e w23 ⟨v212, rfl, ho0, hb⟩; refine ⟨_, rfl, ?_⟩; have n0_ := Aside0.mk (Kd.R_below (by (with_reducible repeat (first | apply Kd.R_alloc | apply Kd.R_drewN | apply Kd.R_drew)); exact HO195.out) hb); have n1_ := Aside0.mk (Kd.R_elder' (by (with_reducible repeat (first | apply Kd.R_alloc | apply Kd.R_drewN | apply Kd.R_drew)); exact HO199.out) (Kd.R_base ho0) hb); have n2_ := Aside0.mk (Kd.R_elder' (by (with_reducible repeat (first | apply Kd.R_alloc | apply Kd.R_drewN | apply Kd.R_drew)); exact HO203.out) (Kd.R_base ho0) hb); have n3_ := Aside0.mk (Kd.R_below (by (with_reducible repeat (first | apply Kd.R_alloc | apply Kd.R_drewN | apply Kd.R_drew)); exact HO209.out) hb); have n4_ := Aside0.mk (Kd.R_lower (Kd.R_new' (Kd.R_new' ho0 (Kd.R_lt (by (with_reducible repeat (first | apply Kd.R_alloc | apply Kd.R_drewN | apply Kd.R_drew)); exact HO199.out))) (Kd.R_lt (by (with_reducible repeat (first | apply Kd.R_alloc | apply Kd.R_drewN | apply Kd.R_drew)); exact HO203.out))) (below_size (by repeat (first | (with_reducible first | exact HB.out | apply below_alloc | apply pw_below_drewN | apply below_drew1) | exact HB.out)))); have n5_ := Aside0.mk (below_step (by repeat (first | (with_reducible first | exact HB.out | apply below_alloc | apply pw_below_drewN | apply below_drew1) | exact HB.out)) hb); clear HO195; clear HO199; clear HO203; clear HO209; clear HB; have HO195 := n0_; have HO199 := n1_; have HO203 := n2_; have HO209 := n3_; have HO213 := n4_; have HB := n5_; clear n0_ n1_ n2_ n3_ n4_ n5_; (try clear hb); (try clear hb2); (try clear hk); (try clear hi); (try clear ho0); have hcv24 := own_string (P := Tryd.prog) Tryd.underlying26 Tryd.underlying5 Tryd.underlying9 (Kd.own_of_R HO199.out); have hcv24d := fun nd_ : Nat => own_string (P := Tryd.prog) Tryd.underlying26 Tryd.underlying5 Tryd.underlying9 (Kd.own_of_R (Kd.R_drewN HO199.out nd_)); have hcv25 := own_string (P := Tryd.prog) Tryd.underlying26 Tryd.underlying5 Tryd.underlying9 (Kd.own_of_R HO203.out); have hcv25d := fun nd_ : Nat => own_string (P := Tryd.prog) Tryd.underlying26 Tryd.underlying5 Tryd.underlying9 (Kd.own_of_R (Kd.R_drewN HO203.out nd_)); have hcv26 := own_string (P := Tryd.prog) Tryd.underlying26 Tryd.underlying5 Tryd.underlying9 (Kd.own_of_R HO213.out); have hcv26d := fun nd_ : Nat => own_string (P := Tryd.prog) Tryd.underlying26 Tryd.underlying5 Tryd.underlying9 (Kd.own_of_R (Kd.R_drewN HO213.out nd_))) | (go_at_call 16; (refine (code_Hash.calls k _ _ ([] : List Int) t214 _ ?side1 ?side2 A12.out).mono ?_); (case side1 => exact Kd.C_nil _ _); (case side2 => exact Nat.le_refl _); rintro e w' ⟨rfl, ⟨nd, rfl⟩⟩))
              go_ret
              exact ⟨by first | rfl | (simp [errW_none, errW_some] <;> rfl) | (simp [*, errW_none, errW_some] <;> rfl), by repeat (first | (with_reducible first | exact HB.out | apply below_alloc | apply pw_below_drewN | apply below_drew1) | exact HB.out)⟩
            · rw [if_neg c11] at H
              have c11b0 : (t211 == 0) = false := beq_eq_false_iff_ne.mpr c11
              have c11b1 : (t211 != 0) = true := bne_iff_ne.mpr c11
              exact absurd ((Option.some.inj H).trans HRT.out) Bool.false_ne_true
          · rw [if_neg c10] at H
            have c10b0 : ((strOfNums t210).toList == ([3, 97, 0, 0] : List UInt8)) = false := beq_eq_false_iff_ne.mpr c10
            have c10b1 : ((strOfNums t210).toList != ([3, 97, 0, 0] : List UInt8)) = true := bne_iff_ne.mpr c10
            exact absurd ((Option.some.inj H).trans HRT.out) Bool.false_ne_true
        · rw [if_neg c9] at H
          have c9b0 : (t201 == 0) = false := beq_eq_false_iff_ne.mpr c9
          have c9b1 : (t201 != 0) = true := bne_iff_ne.mpr c9
          exact absurd ((Option.some.inj H).trans HRT.out) Bool.false_ne_true
      · rw [if_neg c8] at H
        have c8b0 : ((strOfNums t200).toList == ([2, 128, 0, 0, 0, 0, 0, 0, 1, 0] : List UInt8)) = false := beq_eq_false_iff_ne.mpr c8
        have c8b1 : ((strOfNums t200).toList != ([2, 128, 0, 0, 0, 0, 0, 0, 1, 0] : List UInt8)) = true := bne_iff_ne.mpr c8
        exact absurd ((Option.some.inj H).trans HRT.out) Bool.false_ne_true
    · rw [if_neg c7] at H
      have c7b0 : (t197 == 0) = false := beq_eq_false_iff_ne.mpr c7
      have c7b1 : (t197 != 0) = true := bne_iff_ne.mpr c7
      exact absurd ((Option.some.inj H).trans HRT.out) Bool.false_ne_true
  · rw [if_neg c6] at H
    have c6b0 : ((strOfNums t196).toList == ([2, 2, 0, 0, 0, 0, 0, 0, 0, 1, 0] : List UInt8)) = false := beq_eq_false_iff_ne.mpr c6
    have c6b1 : ((strOfNums t196).toList != ([2, 2, 0, 0, 0, 0, 0, 0, 0, 1, 0] : List UInt8)) = true := bne_iff_ne.mpr c6
    exact absurd ((Option.some.inj H).trans HRT.out) Bool.false_ne_true

-- NOT PRINTED: function 44 (code_reader_take)

-- NOT PRINTED: function 32 (code_reader_byte)

/-! ### code_number: function 45 -/

-- NOT PRINTED: function 33 (code_reader_value)

-- NOT PRINTED: function 34 (code_reader_counted)

/-! ### code_Decode: function 17 -/
/-- a value that the reader reads -/
def vX (r : Int × Int × List Int) : S43 := ⟨r.1, r.2.1, strOfNums r.2.2⟩
def okB (l : List Int) : Prop := l.length ≤ 1000000000 ∧ ∀ x ∈ l, 0 ≤ x ∧ x ≤ 255
instance (l : List Int) : Decidable (okB l) := by unfold okB; exact inferInstance
def decS (xs : List Int) : Nat → List S43 → Nat × Bool → List S43 × (Nat × Bool)
  | 0, row, s => (row, s)
  | n + 1, row, s => if s.2 = true then decS xs n (row ++ [vX (Rd.valueS xs 0 (Rd.countedS xs) s).1]) (Rd.valueS xs 0 (Rd.countedS xs) s).2 else (row, s)
def decR (xs : List Int) : List S43 × Int × Int :=
  if (decS xs (Rd.byteS xs 64 (0, true)).1.toNat [] (Rd.byteS xs 64 (0, true)).2).2.2 = true then ((decS xs (Rd.byteS xs 64 (0, true)).1.toNat [] (Rd.byteS xs 64 (0, true)).2).1, ((decS xs (Rd.byteS xs 64 (0, true)).1.toNat [] (Rd.byteS xs 64 (0, true)).2).2.1 : Int), 0) else ([], 0, 50)
def code_Decode.f (l0 : List Int) : Option (List S43 × Int × Int) := if okB l0 then some (decR l0) else none
theorem strOf_nil : strOfNums [] = ⟨#[]⟩ := rfl
theorem valueS_at {xs : List Int} {turned : Int} {tx : Nat × Bool → List Int × (Nat × Bool)} {s : Nat × Bool} (hs : s.1 ≤ xs.length) (ht : ∀ s, s.1 ≤ xs.length → (tx s).2.1 ≤ xs.length) : (Rd.valueS xs turned tx s).2.1 ≤ xs.length := by
  have h1 := Rd.byteS_at xs 4 s hs
  unfold Rd.valueS
  split
  · exact Rd.byteS_at _ _ _ h1
  · split
    · exact Rd.takeS_at _ _ _ h1 (by decide)
    · split
      · exact ht _ h1
      · exact h1
theorem numS_nn (l : List Int) (h : l.length ≤ 8) (hv : ∀ x ∈ l, 0 ≤ x ∧ x ≤ 255) : 0 ≤ Rd.numS l := (Rd.numS_lt l h hv).1
theorem countedS_at {xs : List Int} (hv : ∀ x ∈ xs, 0 ≤ x ∧ x ≤ 255) {s : Nat × Bool} (hs : s.1 ≤ xs.length) : (Rd.countedS xs s).2.1 ≤ xs.length := by
  have h1 := Rd.takeS_at xs 4 s hs (by decide)
  have h2 := numS_nn (Rd.takeS xs 4 s).1 (by have := Rd.takeS_len xs 4 s; have e : (4 : Int).toNat = 4 := rfl; omega) (fun x hx => hv x (Rd.takeS_mem x hx))
  unfold Rd.countedS
  refine Rd.takeS_at _ _ _ ?_ h2
  split
  · exact h1
  · exact h1
theorem endedS_at {xs : List Int} : ∀ (f : Nat) (acc : List Int) (s : Nat × Bool), s.1 ≤ xs.length → (Rd.endedS f xs acc s).2.1 ≤ xs.length
  | 0, _, _, h => h
  | f + 1, acc, s, h => by
    have h1 := Rd.byteS_at xs 255 s h
    have h2 := Rd.byteS_at xs 255 _ h1
    rw [Rd.endedS]
    split
    · split
      · exact endedS_at f _ _ h1
      · split
        · exact h2
        · split
          · exact endedS_at f _ _ h2
          · exact endedS_at f _ _ h2
    · exact h
/-- the rows that are read so far -/
def RowX (B : Nat) (w : World) (v : Value) (row : List S43) : Prop := Kd.R k43 43 w B (fun k => B < k) v row
theorem RowX.kp {B : Nat} {w w' : World} {v : Value} {row : List S43} (h : RowX B w v row) (k : Rd.Kp B B w w') : RowX B w' v row := Kd.R_keep h k.kb (fun k hk => by omega)
theorem RowX.alloc {B : Nat} {w : World} {v : Value} {row : List S43} (h : RowX B w v row) (o : Obj) : RowX B (w.alloc o) v row := Kd.R_alloc h o
theorem blk_add (ad : Addr) (n : Nat) : (ad.add n).block = ad.block := by unfold Addr.add; split <;> rfl
theorem far_of {A : Option Addr} {xs : List Int} {w : World} (h : Kd.C (Kd.int .u8) w A xs.length xs) : ∀ ad, A = some ad → 0 < xs.length → ad.block ≠ w.heap.size := by
  rintro ad rfl h0 e
  obtain ⟨ad', cs, e', _, hk, hcell⟩ := Kd.C_get h 0 0 (Int.le_refl _) (by omega)
  injection e' with e'
  subst e'
  have hk' : cs = [.int .u8 (xs.getD 0 0)] := hk
  subst hk'
  have h1 := World.block_lt_of_cell? w _ (hcell 0 _ rfl)
  rw [blk_add] at h1
  omega
theorem byteS_most {xs : List Int} {m : Int} (hm : 0 ≤ m) {s : Nat × Bool} (hv : ∀ x ∈ xs, 0 ≤ x ∧ x ≤ 255) : 0 ≤ (Rd.byteS xs m s).1 ∧ (Rd.byteS xs m s).1 ≤ m := by
  have h := (Rd.byteS_mem (m := m) (s := s) hv).1
  refine ⟨h, ?_⟩
  unfold Rd.byteS
  split
  · split
    · exact hm
    · rename_i h2
      exact Int.not_lt.1 h2
  · exact hm
theorem below_kp {B : Nat} {w w0 w' : World} (h : Below w.heap.size w w0) (hs : w.heap.size = B) (k : Rd.Kp B B w0 w') : Below w.heap.size w w' := h.trans (by rw [hs]; exact k.bl)
set_option maxHeartbeats 4000000 in
set_option maxRecDepth 100000 in
theorem code_Decode.calls (A0 : Option Addr) (c0 : Nat) (l0 : List Int) (r1 : List S43) (r2 : Int) (r3 : Int) (w : World) (hr0 : Kd.C (Kd.int .u8) w A0 l0.length l0) (hc0 : l0.length ≤ c0) (h : code_Decode.f l0 = some (r1, r2, r3)) :
    Calls Tryd.prog 17 #[.slice A0 l0.length c0] w fun e w' => ∃ v0_ : Value, e = .returned (.tuple #[v0_, .int .i64 r2, .int .i64 r3]) ∧ Kd.R k43 43 w' w.heap.size (fun _ => True) v0_ r1 ∧ Below w.heap.size w w' := by
  unfold code_Decode.f at h
  by_cases hc : okB l0
  · rw [if_pos hc] at h
    have HD := Aside0.mk (Option.some.inj h)
    clear h
    obtain ⟨B, hB⟩ : ∃ B, B = w.heap.size := ⟨_, rfl⟩
    have HR0 : Aside0 (Rd.Rdr (w.alloc (.cells #[.slice A0 l0.length c0, .int .i64 0, .bool true] 56)) B A0 l0.length c0 (0, true)) := ⟨Rd.at_new _ _ _ hB⟩
    have HX0 : Aside0 (Rd.Bs (w.alloc (.cells #[.slice A0 l0.length c0, .int .i64 0, .bool true] 56)) A0 l0.length l0) := ⟨Kd.C_alloc hr0 _⟩
    have HS : Aside0 (Rd.Src B B A0 c0 l0) := ⟨⟨Nat.le_refl _, hc.1, hc0, Nat.zero_le _, by rw [hB]; exact far_of hr0, hc.2⟩⟩
    have HBL : Aside0 (Below w.heap.size w (w.alloc (.cells #[.slice A0 l0.length c0, .int .i64 0, .bool true] 56))) := ⟨(Below.refl _ w).alloc (Nat.le_refl _) _⟩
    have HSZ : Aside0 ((w.alloc (.cells #[.slice A0 l0.length c0, .int .i64 0, .bool true] 56)).heap.size = B + 1 ∧ w.heap.size = B) := ⟨by rw [World.size_alloc, hB], hB.symm⟩
    clear hc hc0 hr0
    go_enter Tryd.func17, Tryd.ntmps17
    go_wp2_with fail
    rw [← hB]
    clear hB
    generalize w.alloc (.cells #[.slice A0 l0.length c0, .int .i64 0, .bool true] 56) = w0 at *
    have HN := Aside0.mk (byteS_most (m := 64) (s := (0, true)) (by decide) HS.out.hv)
    refine (Rd.byte B B A0 c0 l0 (0, true) 64 _ HS.out.hB HR0.out (Nat.zero_le _) HS.out.hn HS.out.hc HS.out.hc2 HX0.out HS.out.hf HS.out.hv).mono ?_
    rintro e w1 ⟨rfl, hR1, hK1⟩
    have HR1 := Aside0.mk hR1
    have HK1 := Aside0.mk hK1
    have HAT := Aside0.mk (Rd.byteS_at l0 64 (0, true) (Nat.zero_le _))
    clear hR1 hK1 HR0
    rw [decR] at HD
    generalize Rd.byteS l0 64 (0, true) = Y at *
    obtain ⟨y, s1⟩ := Y
    simp only at HR1 HN HAT HD ⊢
    obtain ⟨m, rfl⟩ : ∃ m : Nat, y = m := ⟨y.toNat, by have := HN.out.1; omega⟩
    rw [Int.toNat_natCast] at HD
    have HM : Aside0 (m ≤ 64) := ⟨by have := HN.out.2; omega⟩
    clear HN
    generalize hDD : decS l0 m [] s1 = D at *
    have HDD := Aside0.mk hDD
    clear hDD
    go_wp2
    go_loopg [6, 7] m (fun gg s6 s7 wr => ∃ (n : Nat) (t : Nat × Bool) (row : List S43), s7 = .int .i64 n ∧ Aside0 (n ≤ gg) ∧ Aside0 (t.1 ≤ l0.length) ∧ Aside0 (row.length + n ≤ 64) ∧ Aside0 (RowX B wr s6 row) ∧ Aside0 (Rd.Rdr wr B A0 l0.length c0 t) ∧ Aside0 (Rd.Kp B B w0 wr) ∧ Aside0 (decS l0 n row t = D))
    case atStart => exact ⟨m, s1, [], rfl, ⟨Nat.le_refl _⟩, HAT, ⟨by have := HM.out; simpa using this⟩, ⟨Kd.R_nil _ _ _ _ _⟩, HR1, HK1, HDD⟩
    case round =>
      clear HR1 HK1 HAT HDD HM
      obtain ⟨n, ⟨at1, ok1⟩, row, rfl, hg, ht, hl, HO, HR, HK, HDD⟩ := hrel
      obtain ⟨c0_, c1_, c2_, f0_, f1_, f2_⟩ := HR.out.cells
      cases ok1
      · have e : D = (row, (at1, false)) := by
          have := HDD.out
          cases n with
          | zero => rw [← this]; rfl
          | succ n => rw [← this, decS, if_neg (show ¬ (false = true) by decide)]
        subst e
        have hd := HD.out
        simp only [Bool.false_eq_true, if_false, Prod.mk.injEq] at hd
        obtain ⟨rfl, rfl, rfl⟩ := hd
        clear HD HDD
        by_cases hn : n = 0
        · subst hn
          go_wp2
          go_ret3
          exact ⟨_, rfl, Kd.R_nil _ _ _ _ _, below_kp HBL.out HSZ.out.2 HK.out⟩
        · have hgt : decide ((0 : Int) < (n : Int)) = true := decide_eq_true (by omega)
          have hgt2 : ((0 : Int) < (n : Int)) := by omega
          clear hn
          go_wp2
          go_ret3
          exact ⟨_, rfl, Kd.R_nil _ _ _ _ _, below_kp HBL.out HSZ.out.2 HK.out⟩
      · cases n with
        | zero =>
          have e : D = (row, (at1, true)) := by rw [← HDD.out]; rfl
          subst e
          have hd := HD.out
          simp only [if_true, Prod.mk.injEq] at hd
          obtain ⟨rfl, rfl, rfl⟩ := hd
          clear HD HDD
          go_wp2
          go_quiet (fail)
          go_wp2
          go_ret3
          exact ⟨_, rfl, Kd.R_mono (Kd.R_lower (Kd.R_drewN HO.out _) (Nat.le_of_eq HSZ.out.2)) (fun _ _ => trivial), below_kp HBL.out HSZ.out.2 (HK.out.drewN _)⟩
        | succ n =>
          have hgt : decide ((0 : Int) < ((n + 1 : Nat) : Int)) = true := decide_eq_true (by omega)
          have hgt2 : ((0 : Int) < ((n + 1 : Nat) : Int)) := by omega
          have e := Aside0.mk HDD.out
          rw [decS, if_pos rfl] at e
          clear HDD
          have HV := Aside0.mk (Rd.value34 B B A0 c0 l0 (at1, true) 0 (Rd.countedS l0) wr HS.out (Rd.tx_counted HS.out) HR.out ht.out (HX0.out.kp HK.out HS.out.hf) (by have := HK.out.kb.1; have := HSZ.out.1; omega))
          have HT := Aside0.mk (@valueS_at l0 0 (Rd.countedS l0) (at1, true) ht.out (fun s hs => countedS_at HS.out.hv hs))
          have hw : wrap64 (n : Int) = (n : Int) := by have := hl.out; unfold wrap64; omega
          generalize Rd.valueS l0 0 (Rd.countedS l0) (at1, true) = Y at *
          obtain ⟨⟨k, i, l⟩, t2⟩ := Y
          simp only at HV HT e ⊢
          generalize hT : strOfNums l = t at *
          have hT' := Aside0.mk hT
          clear hT
          go_wp2_with fail
          refine HV.out.mono ?_
          rintro e2 w2 ⟨rfl, hR2, hK2⟩
          have HR2 := Aside0.mk hR2
          have HK2 := Aside0.mk (HK.out.trans hK2)
          have HO2 := Aside0.mk (HO.out.kp hK2)
          have HLT2 : Aside0 (B < w2.heap.size) := ⟨by have := HK2.out.kb.1; have := HSZ.out.1; omega⟩
          clear hR2 hK2 HV HR HK HO c0_ c1_ c2_ f0_ f1_ f2_
          go_wp2_with (first | ((with_reducible refine gate_builtin (b := .append) (xs := #[.tmp 28, .tmp 30]) rfl ?_); at_builtin; refine Kd.R_append k43 (w0 := w2.alloc (.cells #[.int .i64 k, .int .i64 i, .string t] 43)) (W := w2.alloc (.cells #[.int .i64 k, .int .i64 i, .string t] 43)) B rfl (.tmp 28) (.tmp 30) 23 43 (.agg #[(.int .i64 0), (.int .i64 0), (.string ⟨#[]⟩)]) 32 rfl Tryd.underlying23 info43 rfl (by decide) (by omega) u6 row ⟨k, i, t⟩ [.int .i64 k, .int .i64 i, .string t] (fun k => B < k) (fun _ => False) rfl (by first | rfl | (go_simp; done) | (go_simp; rfl)) ?aP (fun _ hk => hk.elim) ?aF ?aO ?aB ?aS ?aL ?_; (case aP => exact k43_mkM _ _ _ ⟨k, i, t⟩); (case aF => exact (fun k hk => by rw [World.size_alloc] at hk; have := HLT2.out; omega)); (case aO => exact HO2.out.alloc _); (case aB => exact Below.refl _ _); (case aS => rw [World.size_alloc]; have := HLT2.out; omega); (case aL => have := hl.out; omega); intro v1 w4 hO4 hb4 hg4 hat4))
          go_roundg n
          case measure => have := hg.out; omega
          case rel =>
            refine ⟨n, t2, row ++ [(⟨k, i, t⟩ : S43)], ?_, ⟨Nat.le_refl _⟩, HT, ⟨?_⟩, ⟨hO4⟩, ⟨blk_grown (blk_alloc HR2.out _) hg4 ?_⟩, ⟨(HK2.out.alloc (by have := HSZ.out.1; omega) _).grown (by have := HSZ.out.1; omega) hg4 ?_⟩, ⟨?_⟩⟩
            · first | rfl | rw [hw]
            · have := hl.out; rw [List.length_append]; simp only [List.length_cons, List.length_nil]; omega
            · intro hb; have := HO2.out.1 B hb.symm; omega
            · intro k_ hk_; have := HO2.out.1 k_ hk_; have := HSZ.out.1; omega
            · rw [← hT'.out]; exact e.out
  · rw [if_neg hc] at h; cases h

/-! ### boscageref01_Bool1: function 46 -/

def boscageref01_Bool1.f (a0 : Bool) : Option (Int × Int × ByteArray) := if a0 = true then (some (1, 1, (⟨#[]⟩ : ByteArray))) else (some (1, 0, (⟨#[]⟩ : ByteArray)))
set_option maxHeartbeats 400000 in
set_option maxRecDepth 100000 in
theorem boscageref01_Bool1.calls (a0 : Bool) (r1 : Int) (r2 : Int) (r3 : ByteArray) (w : World) (h : boscageref01_Bool1.f a0 = some (r1, r2, r3)) :
    Calls Tryd.prog 46 #[.bool a0] w fun e w' => e = .returned (.agg #[.int .i64 r1, .int .i64 r2, .string r3]) ∧ Below w.heap.size w w' := by
  cases a0
  · simp only [boscageref01_Bool1.f, Bool.false_eq_true, if_true, if_false, Option.some.injEq, Prod.mk.injEq] at h
    obtain ⟨rfl, rfl, rfl⟩ := h
    go_enter Tryd.func46, Tryd.ntmps46
    go_wp2
    refine bodyPost_ret (v := .agg #[.int .i64 1, .int .i64 0, .string (⟨#[]⟩ : ByteArray)]) (by simp [results, Tryd.results46, go_sem]) rfl ⟨rfl, ?_⟩
    repeat (first | exact Below.refl _ _ | (refine Below.alloc ?_ (by simp) _))
  · simp only [boscageref01_Bool1.f, if_true, if_true, if_false, Option.some.injEq, Prod.mk.injEq] at h
    obtain ⟨rfl, rfl, rfl⟩ := h
    go_enter Tryd.func46, Tryd.ntmps46
    go_wp2
    refine bodyPost_ret (v := .agg #[.int .i64 1, .int .i64 1, .string (⟨#[]⟩ : ByteArray)]) (by simp [results, Tryd.results46, go_sem]) rfl ⟨rfl, ?_⟩
    repeat (first | exact Below.refl _ _ | (refine Below.alloc ?_ (by simp) _))

/-! ### boscageref05_back: function 47 -/
def boscageref05_back.l0 : Nat → Int → List Int → Int → Int → Option (Int)
  | 0, _, _, _, _ => none
  | k + 1, x3, x6, x7, x8 => if x8 < x7 then (if 0 ≤ x8 then (if x8 < (x6.length : Int) then (boscageref05_back.l0 k (Go.bits .or .u64 (IntKind.u64.wrap (x3 * 256)) (IntKind.u64.wrap (rd x6 x8))) x6 x7 (wrap64 (x8 + 1))) else (none)) else (none)) else (some x3)
def boscageref05_back.f (k : Nat) (l0 : List Int) : Option (Int) := boscageref05_back.l0 k 0 l0 (l0.length : Int) 0
theorem boscageref05_back.mono_l : ∀ k, (∀ y0 y1 y2 y3, LeO (boscageref05_back.l0 k y0 y1 y2 y3) (boscageref05_back.l0 (k + 1) y0 y1 y2 y3))
  | 0 => fun _ _ _ _ r h => by simp [boscageref05_back.l0] at h
  | k + 1 => by
    have ih0 := boscageref05_back.mono_l k
    · intro y0 y1 y2 y3
      unfold boscageref05_back.l0
      repeat' first
      | (with_reducible exact ih0 _ _ _ _)
      | (with_reducible exact LeO.refl _)
      | (with_reducible exact LeO.none _)
      | (with_reducible refine LeO.ite ?_ ?_)
      | (with_reducible refine LeO.bind ?_ (fun _ => ?_))
      | exact ih0 _ _ _ _
      | exact LeO.none _
      | refine LeO.ite ?_ ?_
      | refine LeO.bind ?_ (fun _ => ?_)
theorem boscageref05_back.mono : ∀ a0 k, LeO (boscageref05_back.f k a0) (boscageref05_back.f (k + 1) a0) := by
  intro a0 k
  have ih0 := boscageref05_back.mono_l k
  unfold boscageref05_back.f
  repeat' first
      | (with_reducible exact ih0 _ _ _ _)
      | (with_reducible exact LeO.refl _)
      | (with_reducible exact LeO.none _)
      | (with_reducible refine LeO.ite ?_ ?_)
      | (with_reducible refine LeO.bind ?_ (fun _ => ?_))
      | exact ih0 _ _ _ _
      | exact LeO.none _
      | refine LeO.ite ?_ ?_
      | refine LeO.bind ?_ (fun _ => ?_)
set_option maxHeartbeats 8000000 in
set_option maxRecDepth 100000 in
theorem boscageref05_back.calls (k : Nat) (A0 : Option Addr) (c0 : Nat) (l0 : List Int) (r : Int) (w : World) (hr0 : Kd.C (Kd.int .u8) w A0 l0.length l0) (hc0 : l0.length ≤ c0) (h : boscageref05_back.f k l0 = some r) :
    Calls Tryd.prog 47 #[.slice A0 l0.length c0] w fun e w' => e = .returned (.int .u64 r) ∧ Drawn0 w w' := by
  have HR0 := Aside0.mk hr0
  have HC0 := Aside0.mk hc0
  clear hr0 hc0
  have H : (boscageref05_back.l0 k 0 l0 (l0.length : Int) 0) = some r := h
  clear h
  have H' := Aside0.mk H
  clear H
  go_enter Tryd.func47, Tryd.ntmps47
  go_wp2
  go_loopg [3, 8] k (fun kq v3 v8 w' => ∃ (x3_1 : Int) (x8_1 : Int), v3 = .int .u64 x3_1 ∧ v8 = .int .i64 x8_1 ∧ Aside0 (boscageref05_back.l0 kq x3_1 l0 (l0.length : Int) x8_1 = some r) ∧ Aside0 (kq ≤ k) ∧ Drawn0 w w')
  case atStart => exact ⟨(0), (0), (by first | rfl | (simp; done) | (simp [*]; done) | (simp; first | exact Go.Proofs.YtbojfgjdpfobaaaDoor.Pre.ne1 _ | exact Go.Proofs.YtbojfgjdpfobaaaDoor.Pre.ne2 _ | exact Go.Proofs.YtbojfgjdpfobaaaDoor.Pre.ne3 _ | exact Go.Proofs.YtbojfgjdpfobaaaDoor.Pre.ne4 _ | exact Go.Proofs.YtbojfgjdpfobaaaDoor.Pre.ne5 _ | exact Go.Proofs.YtbojfgjdpfobaaaDoor.Pre.ne6 _)), (by first | rfl | (simp; done) | (simp [*]; done) | (simp; first | exact Go.Proofs.YtbojfgjdpfobaaaDoor.Pre.ne1 _ | exact Go.Proofs.YtbojfgjdpfobaaaDoor.Pre.ne2 _ | exact Go.Proofs.YtbojfgjdpfobaaaDoor.Pre.ne3 _ | exact Go.Proofs.YtbojfgjdpfobaaaDoor.Pre.ne4 _ | exact Go.Proofs.YtbojfgjdpfobaaaDoor.Pre.ne5 _ | exact Go.Proofs.YtbojfgjdpfobaaaDoor.Pre.ne6 _)), H', ⟨Nat.le_refl _⟩, by repeat (first | exact Drawn0.refl _ | apply Drawn0.step)⟩
  case round =>
    clear H'
    obtain ⟨x3_1, x8_1, rfl, rfl, HA, HK1, ⟨m1, rfl⟩⟩ := hrel
    cases gk with
    | zero => exact absurd HA.out (by simp [boscageref05_back.l0])
    | succ k1 =>
      have H := HA.out
      clear HA
      simp only [boscageref05_back.l0] at H
      by_cases c2 : x8_1 < (l0.length : Int)
      · rw [if_pos c2] at H
        have c2b0 : decide (x8_1 < (l0.length : Int)) = true := decide_eq_true c2
        clear c2
        by_cases c3 : 0 ≤ x8_1
        · rw [if_pos c3] at H
          have c3b0 : decide (0 ≤ x8_1) = true := decide_eq_true c3
          clear c3
          by_cases c4 : x8_1 < (l0.length : Int)
          · rw [if_pos c4] at H
            have c4b0 : decide (x8_1 < (l0.length : Int)) = true := decide_eq_true c4
            clear c4
            have H' := Aside0.mk H
            clear H
            have p215 : 0 ≤ (x8_1 : Int) := of_decide_eq_true (by first | (with_reducible assumption) | assumption)
            have q215 : x8_1 < (l0.length : Int) := of_decide_eq_true (by first | (with_reducible assumption) | assumption)
            obtain ⟨ad215, e215, hx215_0⟩ := Kd.at_int HR0.out x8_1 p215 q215
            cases e215
            replace p215 := eq_true p215
            replace q215 := eq_true q215
            go_wp2
            go_roundg k1
            case measure => have := HK1.out; omega
            case rel => exact ⟨(Go.bits .or .u64 (IntKind.u64.wrap (x3_1 * 256)) (IntKind.u64.wrap (rd l0 x8_1))), (wrap64 (x8_1 + 1)), (by first | rfl | (simp; done) | (simp [*]; done) | (simp; first | exact Go.Proofs.YtbojfgjdpfobaaaDoor.Pre.ne1 _ | exact Go.Proofs.YtbojfgjdpfobaaaDoor.Pre.ne2 _ | exact Go.Proofs.YtbojfgjdpfobaaaDoor.Pre.ne3 _ | exact Go.Proofs.YtbojfgjdpfobaaaDoor.Pre.ne4 _ | exact Go.Proofs.YtbojfgjdpfobaaaDoor.Pre.ne5 _ | exact Go.Proofs.YtbojfgjdpfobaaaDoor.Pre.ne6 _)), (by first | rfl | (simp; done) | (simp [*]; done) | (simp; first | exact Go.Proofs.YtbojfgjdpfobaaaDoor.Pre.ne1 _ | exact Go.Proofs.YtbojfgjdpfobaaaDoor.Pre.ne2 _ | exact Go.Proofs.YtbojfgjdpfobaaaDoor.Pre.ne3 _ | exact Go.Proofs.YtbojfgjdpfobaaaDoor.Pre.ne4 _ | exact Go.Proofs.YtbojfgjdpfobaaaDoor.Pre.ne5 _ | exact Go.Proofs.YtbojfgjdpfobaaaDoor.Pre.ne6 _)), H', ⟨by have := HK1.out; omega⟩, by repeat (first | exact Drawn0.refl _ | apply Drawn0.step)⟩
          · rw [if_neg c4] at H
            exact absurd H (by simp)
        · rw [if_neg c3] at H
          exact absurd H (by simp)
      · rw [if_neg c2] at H
        have c2b0 : decide (x8_1 < (l0.length : Int)) = false := decide_eq_false c2
        clear c2
        obtain rfl := Option.some.inj H
        go_wp2
        go_ret
        exact ⟨by first | rfl | (simp; done) | (simp [*]; done), by repeat (first | exact Drawn0.refl _ | apply Drawn0.step)⟩

end Go.Proofs.YtbojfgjdpfobaaaDoor.QCR
