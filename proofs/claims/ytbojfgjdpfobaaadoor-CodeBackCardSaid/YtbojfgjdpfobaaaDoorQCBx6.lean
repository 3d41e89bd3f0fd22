-- printed by our own turn of the print (wip/pr)
import Derived.Test.YtbojfgjdpfobaaaDoorQCBx0
import Derived.Test.YtbojfgjdpfobaaaDoorQCBx4
import Derived.Test.YtbojfgjdpfobaaaDoorQCBx5
namespace Go.Proofs.YtbojfgjdpfobaaaDoor.QCB
open Go.RowKit Go.Proofs.YtbojfgjdpfobaaaDoorW.PrintWords Go.Proofs.YtbojfgjdpfobaaaDoorW.PrintLast Go.Proofs.YtbojfgjdpfobaaaDoorW.PrintMore
attribute [local go_sem] max2_int min2_int max_two min_two max_three min_three max_four min_four   -- for this text's walks alone
set_option linter.unusedVariables false
set_option linter.unusedSimpArgs false

/-! ### boscageref01_Int1: function 23 -/

def boscageref01_Int1.f (a0 : Int) : Option (Int × Int × ByteArray) := some (2, a0, (⟨#[]⟩ : ByteArray))
set_option maxHeartbeats 400000 in
set_option maxRecDepth 100000 in
theorem boscageref01_Int1.calls (a0 : Int) (r1 : Int) (r2 : Int) (r3 : ByteArray) (w : World) (h : boscageref01_Int1.f a0 = some (r1, r2, r3)) :
    Calls Tryd.prog 23 #[.int .i64 a0] w fun e w' => e = .returned (.agg #[.int .i64 r1, .int .i64 r2, .string r3]) ∧ Below w.heap.size w w' := by
  simp only [boscageref01_Int1.f, Option.some.injEq, Prod.mk.injEq] at h
  obtain ⟨rfl, rfl, rfl⟩ := h
  go_enter Tryd.func23, Tryd.ntmps23
  go_wp2
  refine bodyPost_ret (v := .agg #[.int .i64 2, .int .i64 a0, .string (⟨#[]⟩ : ByteArray)]) (by simp [results, Tryd.results23, go_sem]) rfl ⟨rfl, ?_⟩
  repeat (first | exact Below.refl _ _ | (refine Below.alloc ?_ (by simp) _))

/-! ### boscageref01_Text1: function 24 -/

def boscageref01_Text1.f (a0 : ByteArray) : Option (Int × Int × ByteArray) := some (3, 0, a0)
set_option maxHeartbeats 400000 in
set_option maxRecDepth 100000 in
theorem boscageref01_Text1.calls (a0 : ByteArray) (r1 : Int) (r2 : Int) (r3 : ByteArray) (w : World) (h : boscageref01_Text1.f a0 = some (r1, r2, r3)) :
    Calls Tryd.prog 24 #[.string a0] w fun e w' => e = .returned (.agg #[.int .i64 r1, .int .i64 r2, .string r3]) ∧ Below w.heap.size w w' := by
  simp only [boscageref01_Text1.f, Option.some.injEq, Prod.mk.injEq] at h
  obtain ⟨rfl, rfl, rfl⟩ := h
  go_enter Tryd.func24, Tryd.ntmps24
  go_wp2
  refine bodyPost_ret (v := .agg #[.int .i64 3, .int .i64 0, .string a0]) (by simp [results, Tryd.results24, go_sem]) rfl ⟨rfl, ?_⟩
  repeat (first | exact Below.refl _ _ | (refine Below.alloc ?_ (by simp) _))

/-! ### boscagelaw05_live: function 9 -/
def boscagelaw05_live.f (k : Nat)  : Option (Bool) := (boscageref01_Int1.f 1).bind fun bt194 => ((some (([(⟨bt194.1, bt194.2.1, bt194.2.2⟩ : S43), (⟨0, 0, (⟨#[]⟩ : ByteArray)⟩ : S43)] : List (S43)) : List (S43))).bind fun y197 => ((code_Encode.f k y197).bind fun bt200 => ((code_Key.f k y197).bind fun bt204 => ((boscageref01_Text1.f (⟨#[97]⟩ : ByteArray)).bind fun bt208 => ((code_Key.f k (([(⟨bt208.1, bt208.2.1, bt208.2.2⟩ : S43)] : List (S43)))).bind fun bt214 => (if (strOfNums bt200.1).toList = ([2, 2, 0, 0, 0, 0, 0, 0, 0, 1, 0] : List UInt8) then (if bt200.2 = 0 then (if (strOfNums bt204.1).toList = ([2, 128, 0, 0, 0, 0, 0, 0, 1, 0] : List UInt8) then (if bt204.2 = 0 then (if (strOfNums bt214.1).toList = ([3, 97, 0, 0] : List UInt8) then (if bt214.2 = 0 then ((code_Hash.f k ([] : List Int)).bind fun t218 => (some (t218 == 14695981039346656037))) else (some false)) else (some false)) else (some false)) else (some false)) else (some false)) else (some false)))))))
theorem boscagelaw05_live.mono : ∀ k, LeO (boscagelaw05_live.f k ) (boscagelaw05_live.f (k + 1) ) := by
  intro  k
  unfold boscagelaw05_live.f
  repeat' first
      | (with_reducible exact code_Encode.mono _ _)
      | (with_reducible exact code_Hash.mono _ _)
      | (with_reducible exact code_Key.mono _ _)
      | (with_reducible exact LeO.refl _)
      | (with_reducible exact LeO.none _)
      | (with_reducible refine LeO.ite ?_ ?_)
      | (with_reducible refine LeO.bind ?_ (fun _ => ?_))
      | exact code_Encode.mono _ _
      | exact code_Hash.mono _ _
      | exact code_Key.mono _ _
      | exact LeO.none _
      | refine LeO.ite ?_ ?_
      | refine LeO.bind ?_ (fun _ => ?_)
theorem boscagelaw05_live.only (k : Nat) (r : Bool) (h : boscagelaw05_live.f k = some r) : r = true := by
  have h1 : boscagelaw05_live.f 80 = some true := by decide +kernel
  have h2 := at_rounds (fun k => boscagelaw05_live.mono k) (Nat.le_max_left k 80) h
  have h3 := at_rounds (fun k => boscagelaw05_live.mono k) (Nat.le_max_right k 80) h1
  rw [h2] at h3
  exact Option.some.inj h3
set_option maxHeartbeats 8000000 in
set_option maxRecDepth 100000 in
theorem boscagelaw05_live.calls (k : Nat)  (r : Bool) (w : World) (h : boscagelaw05_live.f k  = some r) :
    Calls Tryd.prog 9 #[] w fun e w' => e = .returned (.bool r) ∧ Below w.heap.size w w' := by
  have hu43 := Tryd.underlying43
  have HB := Aside0.mk (Below.refl w.heap.size w)
  have HRT := Aside0.mk (boscagelaw05_live.only k r h)
  have H : ((boscageref01_Int1.f 1).bind fun bt194 => ((some (([(⟨bt194.1, bt194.2.1, bt194.2.2⟩ : S43), (⟨0, 0, (⟨#[]⟩ : ByteArray)⟩ : S43)] : List (S43)) : List (S43))).bind fun y197 => ((code_Encode.f k y197).bind fun bt200 => ((code_Key.f k y197).bind fun bt204 => ((boscageref01_Text1.f (⟨#[97]⟩ : ByteArray)).bind fun bt208 => ((code_Key.f k (([(⟨bt208.1, bt208.2.1, bt208.2.2⟩ : S43)] : List (S43)))).bind fun bt214 => (if (strOfNums bt200.1).toList = ([2, 2, 0, 0, 0, 0, 0, 0, 0, 1, 0] : List UInt8) then (if bt200.2 = 0 then (if (strOfNums bt204.1).toList = ([2, 128, 0, 0, 0, 0, 0, 0, 1, 0] : List UInt8) then (if bt204.2 = 0 then (if (strOfNums bt214.1).toList = ([3, 97, 0, 0] : List UInt8) then (if bt214.2 = 0 then ((code_Hash.f k ([] : List Int)).bind fun t218 => (some (t218 == 14695981039346656037))) else (some false)) else (some false)) else (some false)) else (some false)) else (some false)) else (some false)))))))) = some r := h
  clear h
  replace H := Option.bind_eq_some_iff.mp H
  obtain ⟨⟨t194, t195, t196⟩, A10, H⟩ := H
  replace H : ((some (([(⟨t194, t195, t196⟩ : S43), (⟨0, 0, (⟨#[]⟩ : ByteArray)⟩ : S43)] : List (S43)) : List (S43))).bind fun y197 => ((code_Encode.f k y197).bind fun bt200 => ((code_Key.f k y197).bind fun bt204 => ((boscageref01_Text1.f (⟨#[97]⟩ : ByteArray)).bind fun bt208 => ((code_Key.f k (([(⟨bt208.1, bt208.2.1, bt208.2.2⟩ : S43)] : List (S43)))).bind fun bt214 => (if (strOfNums bt200.1).toList = ([2, 2, 0, 0, 0, 0, 0, 0, 0, 1, 0] : List UInt8) then (if bt200.2 = 0 then (if (strOfNums bt204.1).toList = ([2, 128, 0, 0, 0, 0, 0, 0, 1, 0] : List UInt8) then (if bt204.2 = 0 then (if (strOfNums bt214.1).toList = ([3, 97, 0, 0] : List UInt8) then (if bt214.2 = 0 then ((code_Hash.f k ([] : List Int)).bind fun t218 => (some (t218 == 14695981039346656037))) else (some false)) else (some false)) else (some false)) else (some false)) else (some false)) else (some false))))))) = some r := H
  have A1 := Aside0.mk A10
  clear A10
  obtain ⟨y197, hy197⟩ : ∃ y_ : List (S43), y_ = (([(⟨t194, t195, t196⟩ : S43), (⟨0, 0, (⟨#[]⟩ : ByteArray)⟩ : S43)] : List (S43))) := ⟨_, rfl⟩
  replace H : ((code_Encode.f k y197).bind fun bt200 => ((code_Key.f k y197).bind fun bt204 => ((boscageref01_Text1.f (⟨#[97]⟩ : ByteArray)).bind fun bt208 => ((code_Key.f k (([(⟨bt208.1, bt208.2.1, bt208.2.2⟩ : S43)] : List (S43)))).bind fun bt214 => (if (strOfNums bt200.1).toList = ([2, 2, 0, 0, 0, 0, 0, 0, 0, 1, 0] : List UInt8) then (if bt200.2 = 0 then (if (strOfNums bt204.1).toList = ([2, 128, 0, 0, 0, 0, 0, 0, 1, 0] : List UInt8) then (if bt204.2 = 0 then (if (strOfNums bt214.1).toList = ([3, 97, 0, 0] : List UInt8) then (if bt214.2 = 0 then ((code_Hash.f k ([] : List Int)).bind fun t218 => (some (t218 == 14695981039346656037))) else (some false)) else (some false)) else (some false)) else (some false)) else (some false)) else (some false)))))) = some r := by first | (rw [hy197]; with_reducible exact H) | (have H2_ := (Option.bind_some _ _).symm.trans H; rw [hy197]; with_reducible exact H2_) | (have H2_ := (Option.bind_some _ _).symm.trans H; with_reducible exact H2_) | with_reducible exact H | (rw [hy197]; exact H) | exact H
  have Ny197 := Aside0.mk hy197
  clear hy197
  replace H := Option.bind_eq_some_iff.mp H
  obtain ⟨⟨t200, t201⟩, A20, H⟩ := H
  replace H : ((code_Key.f k y197).bind fun bt204 => ((boscageref01_Text1.f (⟨#[97]⟩ : ByteArray)).bind fun bt208 => ((code_Key.f k (([(⟨bt208.1, bt208.2.1, bt208.2.2⟩ : S43)] : List (S43)))).bind fun bt214 => (if (strOfNums t200).toList = ([2, 2, 0, 0, 0, 0, 0, 0, 0, 1, 0] : List UInt8) then (if t201 = 0 then (if (strOfNums bt204.1).toList = ([2, 128, 0, 0, 0, 0, 0, 0, 1, 0] : List UInt8) then (if bt204.2 = 0 then (if (strOfNums bt214.1).toList = ([3, 97, 0, 0] : List UInt8) then (if bt214.2 = 0 then ((code_Hash.f k ([] : List Int)).bind fun t218 => (some (t218 == 14695981039346656037))) else (some false)) else (some false)) else (some false)) else (some false)) else (some false)) else (some false))))) = some r := H
  have A2 := Aside0.mk A20
  clear A20
  replace H := Option.bind_eq_some_iff.mp H
  obtain ⟨⟨t204, t205⟩, A30, H⟩ := H
  replace H : ((boscageref01_Text1.f (⟨#[97]⟩ : ByteArray)).bind fun bt208 => ((code_Key.f k (([(⟨bt208.1, bt208.2.1, bt208.2.2⟩ : S43)] : List (S43)))).bind fun bt214 => (if (strOfNums t200).toList = ([2, 2, 0, 0, 0, 0, 0, 0, 0, 1, 0] : List UInt8) then (if t201 = 0 then (if (strOfNums t204).toList = ([2, 128, 0, 0, 0, 0, 0, 0, 1, 0] : List UInt8) then (if t205 = 0 then (if (strOfNums bt214.1).toList = ([3, 97, 0, 0] : List UInt8) then (if bt214.2 = 0 then ((code_Hash.f k ([] : List Int)).bind fun t218 => (some (t218 == 14695981039346656037))) else (some false)) else (some false)) else (some false)) else (some false)) else (some false)) else (some false)))) = some r := H
  have A3 := Aside0.mk A30
  clear A30
  replace H := Option.bind_eq_some_iff.mp H
  obtain ⟨⟨t208, t209, t210⟩, A40, H⟩ := H
  replace H : ((code_Key.f k (([(⟨t208, t209, t210⟩ : S43)] : List (S43)))).bind fun bt214 => (if (strOfNums t200).toList = ([2, 2, 0, 0, 0, 0, 0, 0, 0, 1, 0] : List UInt8) then (if t201 = 0 then (if (strOfNums t204).toList = ([2, 128, 0, 0, 0, 0, 0, 0, 1, 0] : List UInt8) then (if t205 = 0 then (if (strOfNums bt214.1).toList = ([3, 97, 0, 0] : List UInt8) then (if bt214.2 = 0 then ((code_Hash.f k ([] : List Int)).bind fun t218 => (some (t218 == 14695981039346656037))) else (some false)) else (some false)) else (some false)) else (some false)) else (some false)) else (some false))) = some r := H
  have A4 := Aside0.mk A40
  clear A40
  obtain ⟨y211, hy211⟩ : ∃ y_ : List (S43), y_ = (([(⟨t208, t209, t210⟩ : S43)] : List (S43))) := ⟨_, rfl⟩
  replace H : ((code_Key.f k y211).bind fun bt214 => (if (strOfNums t200).toList = ([2, 2, 0, 0, 0, 0, 0, 0, 0, 1, 0] : List UInt8) then (if t201 = 0 then (if (strOfNums t204).toList = ([2, 128, 0, 0, 0, 0, 0, 0, 1, 0] : List UInt8) then (if t205 = 0 then (if (strOfNums bt214.1).toList = ([3, 97, 0, 0] : List UInt8) then (if bt214.2 = 0 then ((code_Hash.f k ([] : List Int)).bind fun t218 => (some (t218 == 14695981039346656037))) else (some false)) else (some false)) else (some false)) else (some false)) else (some false)) else (some false))) = some r := by first | (rw [hy211]; with_reducible exact H) | (have H2_ := (Option.bind_some _ _).symm.trans H; rw [hy211]; with_reducible exact H2_) | (have H2_ := (Option.bind_some _ _).symm.trans H; with_reducible exact H2_) | with_reducible exact H | (rw [hy211]; exact H) | exact H
  have Ny211 := Aside0.mk hy211
  clear hy211
  replace H := Option.bind_eq_some_iff.mp H
  obtain ⟨⟨t214, t215⟩, A50, H⟩ := H
  replace H : (if (strOfNums t200).toList = ([2, 2, 0, 0, 0, 0, 0, 0, 0, 1, 0] : List UInt8) then (if t201 = 0 then (if (strOfNums t204).toList = ([2, 128, 0, 0, 0, 0, 0, 0, 1, 0] : List UInt8) then (if t205 = 0 then (if (strOfNums t214).toList = ([3, 97, 0, 0] : List UInt8) then (if t215 = 0 then ((code_Hash.f k ([] : List Int)).bind fun t218 => (some (t218 == 14695981039346656037))) else (some false)) else (some false)) else (some false)) else (some false)) else (some false)) else (some false)) = some r := H
  have A5 := Aside0.mk A50
  clear A50
  by_cases c6 : (strOfNums t200).toList = ([2, 2, 0, 0, 0, 0, 0, 0, 0, 1, 0] : List UInt8)
  · rw [if_pos c6] at H
    have c6b0 : ((strOfNums t200).toList == ([2, 2, 0, 0, 0, 0, 0, 0, 0, 1, 0] : List UInt8)) = true := beq_iff_eq.mpr c6
    have c6b1 : ((strOfNums t200).toList != ([2, 2, 0, 0, 0, 0, 0, 0, 0, 1, 0] : List UInt8)) = false := bne_eq_false_iff_eq.mpr c6
    clear c6
    by_cases c7 : t201 = 0
    · rw [if_pos c7] at H
      have c7b0 : (t201 == 0) = true := beq_iff_eq.mpr c7
      have c7b1 : (t201 != 0) = false := bne_eq_false_iff_eq.mpr c7
      clear c7
      by_cases c8 : (strOfNums t204).toList = ([2, 128, 0, 0, 0, 0, 0, 0, 1, 0] : List UInt8)
      · rw [if_pos c8] at H
        have c8b0 : ((strOfNums t204).toList == ([2, 128, 0, 0, 0, 0, 0, 0, 1, 0] : List UInt8)) = true := beq_iff_eq.mpr c8
        have c8b1 : ((strOfNums t204).toList != ([2, 128, 0, 0, 0, 0, 0, 0, 1, 0] : List UInt8)) = false := bne_eq_false_iff_eq.mpr c8
        clear c8
        by_cases c9 : t205 = 0
        · rw [if_pos c9] at H
          have c9b0 : (t205 == 0) = true := beq_iff_eq.mpr c9
          have c9b1 : (t205 != 0) = false := bne_eq_false_iff_eq.mpr c9
          clear c9
          by_cases c10 : (strOfNums t214).toList = ([3, 97, 0, 0] : List UInt8)
          · rw [if_pos c10] at H
            have c10b0 : ((strOfNums t214).toList == ([3, 97, 0, 0] : List UInt8)) = true := beq_iff_eq.mpr c10
            have c10b1 : ((strOfNums t214).toList != ([3, 97, 0, 0] : List UInt8)) = false := bne_eq_false_iff_eq.mpr c10
            clear c10
            by_cases c11 : t215 = 0
            · rw [if_pos c11] at H
              have c11b0 : (t215 == 0) = true := beq_iff_eq.mpr c11
              have c11b1 : (t215 != 0) = false := bne_eq_false_iff_eq.mpr c11
              clear c11
              replace H := Option.bind_eq_some_iff.mp H
              obtain ⟨t218, A120, H⟩ := H
              replace H : (some (t218 == 14695981039346656037)) = some r := H
              have A12 := Aside0.mk A120
              clear A120
              obtain rfl := Option.some.inj H
              go_enter Tryd.func9, Tryd.ntmps9
              go_wp2_with (first | ((with_reducible refine gate_callee (f := 23) rfl ?_); refine goesL_ (some 8) rfl rfl Tryd.func23 (by kernel_rfl) rfl #[.int .i64 1] rfl (by (try simp only [List.map_toArray, List.map_cons, List.map_nil]); first | done | rfl | (simp only [List.length_drop, List.length_take]; rfl)) ?_; (with_reducible refine (boscageref01_Int1.calls 1 t194 t195 t196 _ A1.out).mono ?_); rintro e w13 ⟨rfl, hb⟩; refine ⟨_, rfl, ?_⟩; have n0_ := Aside0.mk (below_step (by repeat (first | (with_reducible first | exact HB.out | apply below_alloc | apply pw_below_drewN | apply below_drew1) | exact HB.out)) hb); clear HB; have HB := n0_; clear n0_; (try clear hb); (try clear hb2); (try clear hk); (try clear hi)) | ((with_reducible refine gate_dst (N := 10) rfl ?_); refine Kd.R_lit k43 _ 43 ?hg (N := 10) ?hd (xs := ([(⟨t194, t195, t196⟩ : S43), (⟨0, 0, (⟨#[]⟩ : ByteArray)⟩ : S43)] : List (S43))) (inner := [.int .i64 t194, .int .i64 t195, .string t196, .int .i64 0, .int .i64 0, .string (⟨#[]⟩ : ByteArray)]) (ok := fun _ => True) (okp := fun _ => True) ?hr ?hp (fun _ hk => hk) trivial (Below.refl _ _) (Nat.le_refl _) (by simp) ?_; (case hd => rfl); (case hg => rfl); (case hr => first | (go_simp; done) | (go_simp; rfl)); (case hp => exact (Reps.c3 (show Kd.M k43 _ _ _ (⟨t194, t195, t196⟩ : S43) [.int .i64 t194, .int .i64 t195, .string t196] from (k43_mkM _ _ _ (⟨t194, t195, t196⟩ : S43) )) (Reps.c3 (show Kd.M k43 _ _ _ (⟨0, 0, (⟨#[]⟩ : ByteArray)⟩ : S43) [.int .i64 0, .int .i64 0, .string (⟨#[]⟩ : ByteArray)] from (k43_mkM _ _ _ (⟨0, 0, (⟨#[]⟩ : ByteArray)⟩ : S43) )) (Reps.none _ _)))); intro v198 w14 ho15 hb hg_ hnew_; clear hg_ hnew_; (first | rw [← Ny197.out] at ho15 | (simp only [Int.reduceToNat] at ho15; rw [← Ny197.out] at ho15)); have n0_ := Aside0.mk (Kd.R_lower ho15 (below_size (by repeat (first | (with_reducible first | exact HB.out | apply below_alloc | apply pw_below_drewN | apply below_drew1) | exact HB.out)))); have n1_ := Aside0.mk (below_step (by repeat (first | (with_reducible first | exact HB.out | apply below_alloc | apply pw_below_drewN | apply below_drew1) | exact HB.out)) hb); clear HB; have HO199 := n0_; have HB := n1_; clear n0_ n1_; clear hb ho15; obtain ⟨Ao16, co16, eo16⟩ := Kd.R_slice HO199.out; subst eo16) | ((with_reducible refine gate_callee (f := 11) rfl ?_); refine goesL_ (some 13) rfl rfl Tryd.func11 (by kernel_rfl) rfl #[.slice Ao16 y197.length co16] rfl (by (try simp only [List.map_toArray, List.map_cons, List.map_nil]); first | done | rfl | (simp only [List.length_drop, List.length_take]; rfl)) ?_; (with_reducible refine (code_Encode.calls k _ _ y197 t200 t201 _ ?side1 ?side2 A2.out).mono ?_); (case side1 => repeat (first | exact (Kd.R_reads' HO199.out).2.2 | (with_reducible refine Kd.C_alloc ?_ _) | (with_reducible refine Kd.C_drewN ?_ _) | (with_reducible refine Kd.C_drew ?_))); (case side2 => exact (Kd.R_reads' HO199.out).2.1); rintro e w17 ⟨v202, rfl, ho0, hb⟩; refine ⟨_, rfl, ?_⟩; have n0_ := Aside0.mk (Kd.R_below (by (with_reducible repeat (first | apply Kd.R_alloc | apply Kd.R_drewN | apply Kd.R_drew)); exact HO199.out) hb); have n1_ := Aside0.mk (Kd.R_lower ho0 (below_size (by repeat (first | (with_reducible first | exact HB.out | apply below_alloc | apply pw_below_drewN | apply below_drew1) | exact HB.out)))); have n2_ := Aside0.mk (below_step (by repeat (first | (with_reducible first | exact HB.out | apply below_alloc | apply pw_below_drewN | apply below_drew1) | exact HB.out)) hb); clear HO199; clear HB; have HO199 := n0_; have HO203 := n1_; have HB := n2_; clear n0_ n1_ n2_; (try clear hb); (try clear hb2); (try clear hk); (try clear hi); (try clear ho0)) | ((with_reducible refine gate_callee (f := 13) rfl ?_); refine goesL_ (some 18) rfl rfl Tryd.func13 (by kernel_rfl) rfl #[.slice Ao16 y197.length co16] rfl (by (try simp only [List.map_toArray, List.map_cons, List.map_nil]); first | done | rfl | (simp only [List.length_drop, List.length_take]; rfl)) ?_; (with_reducible refine (code_Key.calls k _ _ y197 t204 t205 _ ?side1 ?side2 A3.out).mono ?_); (case side1 => repeat (first | exact (Kd.R_reads' HO199.out).2.2 | (with_reducible refine Kd.C_alloc ?_ _) | (with_reducible refine Kd.C_drewN ?_ _) | (with_reducible refine Kd.C_drew ?_))); (case side2 => exact (Kd.R_reads' HO199.out).2.1); rintro e w18 ⟨v206, rfl, ho0, hb⟩; refine ⟨_, rfl, ?_⟩; have n0_ := Aside0.mk (Kd.R_below (by (with_reducible repeat (first | apply Kd.R_alloc | apply Kd.R_drewN | apply Kd.R_drew)); exact HO199.out) hb); have n1_ := Aside0.mk (Kd.R_elder' (by (with_reducible repeat (first | apply Kd.R_alloc | apply Kd.R_drewN | apply Kd.R_drew)); exact HO203.out) (Kd.R_base ho0) hb); have n2_ := Aside0.mk (Kd.R_lower (Kd.R_new' ho0 (Kd.R_lt (by (with_reducible repeat (first | apply Kd.R_alloc | apply Kd.R_drewN | apply Kd.R_drew)); exact HO203.out))) (below_size (by repeat (first | (with_reducible first | exact HB.out | apply below_alloc | apply pw_below_drewN | apply below_drew1) | exact HB.out)))); have n3_ := Aside0.mk (below_step (by repeat (first | (with_reducible first | exact HB.out | apply below_alloc | apply pw_below_drewN | apply below_drew1) | exact HB.out)) hb); clear HO199; clear HO203; clear HB; have HO199 := n0_; have HO203 := n1_; have HO207 := n2_; have HB := n3_; clear n0_ n1_ n2_ n3_; (try clear hb); (try clear hb2); (try clear hk); (try clear hi); (try clear ho0)) | ((with_reducible refine gate_callee (f := 24) rfl ?_); refine goesL_ (some 22) rfl rfl Tryd.func24 (by kernel_rfl) rfl #[.string (⟨#[97]⟩ : ByteArray)] rfl (by (try simp only [List.map_toArray, List.map_cons, List.map_nil]); first | done | rfl | (simp only [List.length_drop, List.length_take]; rfl)) ?_; (with_reducible refine (boscageref01_Text1.calls (⟨#[97]⟩ : ByteArray) t208 t209 t210 _ A4.out).mono ?_); rintro e w19 ⟨rfl, hb⟩; refine ⟨_, rfl, ?_⟩; have n0_ := Aside0.mk (Kd.R_below (by (with_reducible repeat (first | apply Kd.R_alloc | apply Kd.R_drewN | apply Kd.R_drew)); exact HO199.out) hb); have n1_ := Aside0.mk (Kd.R_below (by (with_reducible repeat (first | apply Kd.R_alloc | apply Kd.R_drewN | apply Kd.R_drew)); exact HO203.out) hb); have n2_ := Aside0.mk (Kd.R_below (by (with_reducible repeat (first | apply Kd.R_alloc | apply Kd.R_drewN | apply Kd.R_drew)); exact HO207.out) hb); have n3_ := Aside0.mk (below_step (by repeat (first | (with_reducible first | exact HB.out | apply below_alloc | apply pw_below_drewN | apply below_drew1) | exact HB.out)) hb); clear HO199; clear HO203; clear HO207; clear HB; have HO199 := n0_; have HO203 := n1_; have HO207 := n2_; have HB := n3_; clear n0_ n1_ n2_ n3_; (try clear hb); (try clear hb2); (try clear hk); (try clear hi)) | ((with_reducible refine gate_dst (N := 23) rfl ?_); refine Kd.R_lit k43 _ 43 ?hg (N := 23) ?hd (xs := ([(⟨t208, t209, t210⟩ : S43)] : List (S43))) (inner := [.int .i64 t208, .int .i64 t209, .string t210]) (ok := fun _ => True) (okp := fun _ => True) ?hr ?hp (fun _ hk => hk) trivial (Below.refl _ _) (Nat.le_refl _) (by simp) ?_; (case hd => rfl); (case hg => rfl); (case hr => first | (go_simp; done) | (go_simp; rfl)); (case hp => exact (Reps.c3 (show Kd.M k43 _ _ _ (⟨t208, t209, t210⟩ : S43) [.int .i64 t208, .int .i64 t209, .string t210] from (k43_mkM _ _ _ (⟨t208, t209, t210⟩ : S43) )) (Reps.none _ _))); intro v212 w20 ho21 hb hg_ hnew_; clear hg_ hnew_; (first | rw [← Ny211.out] at ho21 | (simp only [Int.reduceToNat] at ho21; rw [← Ny211.out] at ho21)); have n0_ := Aside0.mk (Kd.R_elder' (by (with_reducible repeat (first | apply Kd.R_alloc | apply Kd.R_drewN | apply Kd.R_drew)); exact HO199.out) (Kd.R_base ho21) hb); have n1_ := Aside0.mk (Kd.R_below (by (with_reducible repeat (first | apply Kd.R_alloc | apply Kd.R_drewN | apply Kd.R_drew)); exact HO203.out) hb); have n2_ := Aside0.mk (Kd.R_below (by (with_reducible repeat (first | apply Kd.R_alloc | apply Kd.R_drewN | apply Kd.R_drew)); exact HO207.out) hb); have n3_ := Aside0.mk (Kd.R_lower (Kd.R_new' ho21 (Kd.R_lt (by (with_reducible repeat (first | apply Kd.R_alloc | apply Kd.R_drewN | apply Kd.R_drew)); exact HO199.out))) (below_size (by repeat (first | (with_reducible first | exact HB.out | apply below_alloc | apply pw_below_drewN | apply below_drew1) | exact HB.out)))); have n4_ := Aside0.mk (below_step (by repeat (first | (with_reducible first | exact HB.out | apply below_alloc | apply pw_below_drewN | apply below_drew1) | exact HB.out)) hb); clear HO199; clear HO203; clear HO207; clear HB; have HO199 := n0_; have HO203 := n1_; have HO207 := n2_; have HO213 := n3_; have HB := n4_; clear n0_ n1_ n2_ n3_ n4_; clear hb ho21; obtain ⟨Ao22, co22, eo22⟩ := Kd.R_slice HO213.out; subst eo22) | ((with_reducible refine gate_callee (f := 13) rfl ?_); refine goesL_ (some 24) rfl rfl Tryd.func13 (by kernel_rfl) rfl #[.slice Ao22 y211.length co22] rfl (by (try simp only [List.map_toArray, List.map_cons, List.map_nil]); first | done | rfl | (simp only [List.length_drop, List.length_take]; rfl)) ?_; (with_reducible refine (code_Key.calls k _ _ y211 t214 t215 _ ?side1 ?side2 A5.out).mono ?_); (case side1 => repeat (first | exact (Kd.R_reads' HO213.out).2.2 | (with_reducible refine Kd.C_alloc ?_ _) | (with_reducible refine Kd.C_drewN ?_ _) | (with_reducible refine Kd.C_drew ?_))); (case side2 => exact (Kd.R_reads' HO213.out).2.1); rintro e w23 ⟨v216, rfl, ho0, hb⟩; refine ⟨_, rfl, ?_⟩; have n0_ := Aside0.mk (Kd.R_below (by (with_reducible repeat (first | apply Kd.R_alloc | apply Kd.R_drewN | apply Kd.R_drew)); exact HO199.out) hb); have n1_ := Aside0.mk (Kd.R_elder' (by (with_reducible repeat (first | apply Kd.R_alloc | apply Kd.R_drewN | apply Kd.R_drew)); exact HO203.out) (Kd.R_base ho0) hb); have n2_ := Aside0.mk (Kd.R_elder' (by (with_reducible repeat (first | apply Kd.R_alloc | apply Kd.R_drewN | apply Kd.R_drew)); exact HO207.out) (Kd.R_base ho0) hb); have n3_ := Aside0.mk (Kd.R_below (by (with_reducible repeat (first | apply Kd.R_alloc | apply Kd.R_drewN | apply Kd.R_drew)); exact HO213.out) hb); have n4_ := Aside0.mk (Kd.R_lower (Kd.R_new' (Kd.R_new' ho0 (Kd.R_lt (by (with_reducible repeat (first | apply Kd.R_alloc | apply Kd.R_drewN | apply Kd.R_drew)); exact HO203.out))) (Kd.R_lt (by (with_reducible repeat (first | apply Kd.R_alloc | apply Kd.R_drewN | apply Kd.R_drew)); exact HO207.out))) (below_size (by repeat (first | (with_reducible first | exact HB.out | apply below_alloc | apply pw_below_drewN | apply below_drew1) | exact HB.out)))); have n5_ := Aside0.mk (below_step (by repeat (first | (with_reducible first | exact HB.out | apply below_alloc | apply pw_below_drewN | apply below_drew1) | exact HB.out)) hb); clear HO199; clear HO203; clear HO207; clear HO213; clear HB; have HO199 := n0_; have HO203 := n1_; have HO207 := n2_; have HO213 := n3_; have HO217 := n4_; have HB := n5_; clear n0_ n1_ n2_ n3_ n4_ n5_; (try clear hb); (try clear hb2); (try clear hk); (try clear hi); (try clear ho0); have hcv24 := own_string (P := Tryd.prog) Tryd.underlying26 Tryd.underlying5 Tryd.underlying9 (Kd.own_of_R HO203.out); have hcv25 := own_string (P := Tryd.prog) Tryd.underlying26 Tryd.underlying5 Tryd.underlying9 (Kd.own_of_R HO207.out); have hcv26 := own_string (P := Tryd.prog) Tryd.underlying26 Tryd.underlying5 Tryd.underlying9 (Kd.own_of_R HO217.out)) | (go_at_call 16; (refine (code_Hash.calls k _ _ ([] : List Int) t218 _ ?side1 ?side2 A12.out).mono ?_); (case side1 => exact Kd.C_nil _ _); (case side2 => exact Nat.le_refl _); rintro e w' ⟨rfl, ⟨nd, rfl⟩⟩))
              go_ret
              exact ⟨by first | rfl | (simp [errW_none, errW_some] <;> rfl) | (simp [*, errW_none, errW_some] <;> rfl), by repeat (first | (with_reducible first | exact HB.out | apply below_alloc | apply pw_below_drewN | apply below_drew1) | exact HB.out)⟩
            · rw [if_neg c11] at H
              have c11b0 : (t215 == 0) = false := beq_eq_false_iff_ne.mpr c11
              have c11b1 : (t215 != 0) = true := bne_iff_ne.mpr c11
              exact absurd ((Option.some.inj H).trans HRT.out) Bool.false_ne_true
          · rw [if_neg c10] at H
            have c10b0 : ((strOfNums t214).toList == ([3, 97, 0, 0] : List UInt8)) = false := beq_eq_false_iff_ne.mpr c10
            have c10b1 : ((strOfNums t214).toList != ([3, 97, 0, 0] : List UInt8)) = true := bne_iff_ne.mpr c10
            exact absurd ((Option.some.inj H).trans HRT.out) Bool.false_ne_true
        · rw [if_neg c9] at H
          have c9b0 : (t205 == 0) = false := beq_eq_false_iff_ne.mpr c9
          have c9b1 : (t205 != 0) = true := bne_iff_ne.mpr c9
          exact absurd ((Option.some.inj H).trans HRT.out) Bool.false_ne_true
      · rw [if_neg c8] at H
        have c8b0 : ((strOfNums t204).toList == ([2, 128, 0, 0, 0, 0, 0, 0, 1, 0] : List UInt8)) = false := beq_eq_false_iff_ne.mpr c8
        have c8b1 : ((strOfNums t204).toList != ([2, 128, 0, 0, 0, 0, 0, 0, 1, 0] : List UInt8)) = true := bne_iff_ne.mpr c8
        exact absurd ((Option.some.inj H).trans HRT.out) Bool.false_ne_true
    · rw [if_neg c7] at H
      have c7b0 : (t201 == 0) = false := beq_eq_false_iff_ne.mpr c7
      have c7b1 : (t201 != 0) = true := bne_iff_ne.mpr c7
      exact absurd ((Option.some.inj H).trans HRT.out) Bool.false_ne_true
  · rw [if_neg c6] at H
    have c6b0 : ((strOfNums t200).toList == ([2, 2, 0, 0, 0, 0, 0, 0, 0, 1, 0] : List UInt8)) = false := beq_eq_false_iff_ne.mpr c6
    have c6b1 : ((strOfNums t200).toList != ([2, 2, 0, 0, 0, 0, 0, 0, 0, 1, 0] : List UInt8)) = true := bne_iff_ne.mpr c6
    exact absurd ((Option.some.inj H).trans HRT.out) Bool.false_ne_true

-- NOT PRINTED: function 44 (code_reader_take)

-- NOT PRINTED: function 32 (code_reader_byte)

/-! ### code_number: function 45 -/

-- NOT PRINTED: function 33 (code_reader_value)

-- NOT PRINTED: function 34 (code_reader_counted)

/-! ### code_Decode: function 17 -/
/-- a value that the reader reads -/
def vX (r : Int × Int × List Int) : S43 := ⟨r.1, r.2.1, strOfNums r.2.2⟩
def okB (l : List Int) : Prop := l.length ≤ 1000000000 ∧ ∀ x ∈ l, 0 ≤ x ∧ x ≤ 255
instance (l : List Int) : Decidable (okB l) := by unfold okB; exact inferInstance
def decS (xs : List Int) : Nat → List S43 → Nat × Bool → List S43 × (Nat × Bool)
  | 0, row, s => (row, s)
  | n + 1, row, s => if s.2 = true then decS xs n (row ++ [vX (Rd.valueS xs 0 (Rd.countedS xs) s).1]) (Rd.valueS xs 0 (Rd.countedS xs) s).2 else (row, s)
def decR (xs : List Int) : List S43 × Int × Int :=
  if (decS xs (Rd.byteS xs 64 (0, true)).1.toNat [] (Rd.byteS xs 64 (0, true)).2).2.2 = true then ((decS xs (Rd.byteS xs 64 (0, true)).1.toNat [] (Rd.byteS xs 64 (0, true)).2).1, ((decS xs (Rd.byteS xs 64 (0, true)).1.toNat [] (Rd.byteS xs 64 (0, true)).2).2.1 : Int), 0) else ([], 0, 50)
def code_Decode.f (l0 : List Int) : Option (List S43 × Int × Int) := if okB l0 then some (decR l0) else none
theorem strOf_nil : strOfNums [] = ⟨#[]⟩ := rfl
theorem valueS_at {xs : List Int} {turned : Int} {tx : Nat × Bool → List Int × (Nat × Bool)} {s : Nat × Bool} (hs : s.1 ≤ xs.length) (ht : ∀ s, s.1 ≤ xs.length → (tx s).2.1 ≤ xs.length) : (Rd.valueS xs turned tx s).2.1 ≤ xs.length := by
  have h1 := Rd.byteS_at xs 4 s hs
  unfold Rd.valueS
  split
  · exact Rd.byteS_at _ _ _ h1
  · split
    · exact Rd.takeS_at _ _ _ h1 (by decide)
    · split
      · exact ht _ h1
      · exact h1
theorem numS_nn (l : List Int) (h : l.length ≤ 8) (hv : ∀ x ∈ l, 0 ≤ x ∧ x ≤ 255) : 0 ≤ Rd.numS l := (Rd.numS_lt l h hv).1
theorem countedS_at {xs : List Int} (hv : ∀ x ∈ xs, 0 ≤ x ∧ x ≤ 255) {s : Nat × Bool} (hs : s.1 ≤ xs.length) : (Rd.countedS xs s).2.1 ≤ xs.length := by
  have h1 := Rd.takeS_at xs 4 s hs (by decide)
  have h2 := numS_nn (Rd.takeS xs 4 s).1 (by have := Rd.takeS_len xs 4 s; have e : (4 : Int).toNat = 4 := rfl; omega) (fun x hx => hv x (Rd.takeS_mem x hx))
  unfold Rd.countedS
  refine Rd.takeS_at _ _ _ ?_ h2
  split
  · exact h1
  · exact h1
theorem endedS_at {xs : List Int} : ∀ (f : Nat) (acc : List Int) (s : Nat × Bool), s.1 ≤ xs.length → (Rd.endedS f xs acc s).2.1 ≤ xs.length
  | 0, _, _, h => h
  | f + 1, acc, s, h => by
    have h1 := Rd.byteS_at xs 255 s h
    have h2 := Rd.byteS_at xs 255 _ h1
    rw [Rd.endedS]
    split
    · split
      · exact endedS_at f _ _ h1
      · split
        · exact h2
        · split
          · exact endedS_at f _ _ h2
          · exact endedS_at f _ _ h2
    · exact h
/-- the rows that are read so far -/
def RowX (B : Nat) (w : World) (v : Value) (row : List S43) : Prop := Kd.R k43 43 w B (fun k => B < k) v row
theorem RowX.kp {B : Nat} {w w' : World} {v : Value} {row : List S43} (h : RowX B w v row) (k : Rd.Kp B B w w') : RowX B w' v row := Kd.R_keep h k.kb (fun k hk => by omega)
theorem RowX.alloc {B : Nat} {w : World} {v : Value} {row : List S43} (h : RowX B w v row) (o : Obj) : RowX B (w.alloc o) v row := Kd.R_alloc h o
theorem blk_add (ad : Addr) (n : Nat) : (ad.add n).block = ad.block := by unfold Addr.add; split <;> rfl
theorem far_of {A : Option Addr} {xs : List Int} {w : World} (h : Kd.C (Kd.int .u8) w A xs.length xs) : ∀ ad, A = some ad → 0 < xs.length → ad.block ≠ w.heap.size := by
  rintro ad rfl h0 e
  obtain ⟨ad', cs, e', _, hk, hcell⟩ := Kd.C_get h 0 0 (Int.le_refl _) (by omega)
  injection e' with e'
  subst e'
  have hk' : cs = [.int .u8 (xs.getD 0 0)] := hk
  subst hk'
  have h1 := World.block_lt_of_cell? w _ (hcell 0 _ rfl)
  rw [blk_add] at h1
  omega
theorem byteS_most {xs : List Int} {m : Int} (hm : 0 ≤ m) {s : Nat × Bool} (hv : ∀ x ∈ xs, 0 ≤ x ∧ x ≤ 255) : 0 ≤ (Rd.byteS xs m s).1 ∧ (Rd.byteS xs m s).1 ≤ m := by
  have h := (Rd.byteS_mem (m := m) (s := s) hv).1
  refine ⟨h, ?_⟩
  unfold Rd.byteS
  split
  · split
    · exact hm
    · rename_i h2
      exact Int.not_lt.1 h2
  · exact hm
theorem below_kp {B : Nat} {w w0 w' : World} (h : Below w.heap.size w w0) (hs : w.heap.size = B) (k : Rd.Kp B B w0 w') : Below w.heap.size w w' := h.trans (by rw [hs]; exact k.bl)
set_option maxHeartbeats 4000000 in
set_option maxRecDepth 100000 in
theorem code_Decode.calls (A0 : Option Addr) (c0 : Nat) (l0 : List Int) (r1 : List S43) (r2 : Int) (r3 : Int) (w : World) (hr0 : Kd.C (Kd.int .u8) w A0 l0.length l0) (hc0 : l0.length ≤ c0) (h : code_Decode.f l0 = some (r1, r2, r3)) :
    Calls Tryd.prog 17 #[.slice A0 l0.length c0] w fun e w' => ∃ v0_ : Value, e = .returned (.tuple #[v0_, .int .i64 r2, .int .i64 r3]) ∧ Kd.R k43 43 w' w.heap.size (fun _ => True) v0_ r1 ∧ Below w.heap.size w w' := by
  unfold code_Decode.f at h
  by_cases hc : okB l0
  · rw [if_pos hc] at h
    have HD := Aside0.mk (Option.some.inj h)
    clear h
    obtain ⟨B, hB⟩ : ∃ B, B = w.heap.size := ⟨_, rfl⟩
    have HR0 : Aside0 (Rd.Rdr (w.alloc (.cells #[.slice A0 l0.length c0, .int .i64 0, .bool true] 56)) B A0 l0.length c0 (0, true)) := ⟨Rd.at_new _ _ _ hB⟩
    have HX0 : Aside0 (Rd.Bs (w.alloc (.cells #[.slice A0 l0.length c0, .int .i64 0, .bool true] 56)) A0 l0.length l0) := ⟨Kd.C_alloc hr0 _⟩
    have HS : Aside0 (Rd.Src B B A0 c0 l0) := ⟨⟨Nat.le_refl _, hc.1, hc0, Nat.zero_le _, by rw [hB]; exact far_of hr0, hc.2⟩⟩
    have HBL : Aside0 (Below w.heap.size w (w.alloc (.cells #[.slice A0 l0.length c0, .int .i64 0, .bool true] 56))) := ⟨(Below.refl _ w).alloc (Nat.le_refl _) _⟩
    have HSZ : Aside0 ((w.alloc (.cells #[.slice A0 l0.length c0, .int .i64 0, .bool true] 56)).heap.size = B + 1 ∧ w.heap.size = B) := ⟨by rw [World.size_alloc, hB], hB.symm⟩
    clear hc hc0 hr0
    go_enter Tryd.func17, Tryd.ntmps17
    go_wp2_with fail
    rw [← hB]
    clear hB
    generalize w.alloc (.cells #[.slice A0 l0.length c0, .int .i64 0, .bool true] 56) = w0 at *
    have HN := Aside0.mk (byteS_most (m := 64) (s := (0, true)) (by decide) HS.out.hv)
    refine (Rd.byte B B A0 c0 l0 (0, true) 64 _ HS.out.hB HR0.out (Nat.zero_le _) HS.out.hn HS.out.hc HS.out.hc2 HX0.out HS.out.hf HS.out.hv).mono ?_
    rintro e w1 ⟨rfl, hR1, hK1⟩
    have HR1 := Aside0.mk hR1
    have HK1 := Aside0.mk hK1
    have HAT := Aside0.mk (Rd.byteS_at l0 64 (0, true) (Nat.zero_le _))
    clear hR1 hK1 HR0
    rw [decR] at HD
    generalize Rd.byteS l0 64 (0, true) = Y at *
    obtain ⟨y, s1⟩ := Y
    simp only at HR1 HN HAT HD ⊢
    obtain ⟨m, rfl⟩ : ∃ m : Nat, y = m := ⟨y.toNat, by have := HN.out.1; omega⟩
    rw [Int.toNat_natCast] at HD
    have HM : Aside0 (m ≤ 64) := ⟨by have := HN.out.2; omega⟩
    clear HN
    generalize hDD : decS l0 m [] s1 = D at *
    have HDD := Aside0.mk hDD
    clear hDD
    go_wp2
    go_loopg [6, 7] m (fun gg s6 s7 wr => ∃ (n : Nat) (t : Nat × Bool) (row : List S43), s7 = .int .i64 n ∧ Aside0 (n ≤ gg) ∧ Aside0 (t.1 ≤ l0.length) ∧ Aside0 (row.length + n ≤ 64) ∧ Aside0 (RowX B wr s6 row) ∧ Aside0 (Rd.Rdr wr B A0 l0.length c0 t) ∧ Aside0 (Rd.Kp B B w0 wr) ∧ Aside0 (decS l0 n row t = D))
    case atStart => exact ⟨m, s1, [], rfl, ⟨Nat.le_refl _⟩, HAT, ⟨by have := HM.out; simpa using this⟩, ⟨Kd.R_nil _ _ _ _ _⟩, HR1, HK1, HDD⟩
    case round =>
      clear HR1 HK1 HAT HDD HM
      obtain ⟨n, ⟨at1, ok1⟩, row, rfl, hg, ht, hl, HO, HR, HK, HDD⟩ := hrel
      obtain ⟨c0_, c1_, c2_, f0_, f1_, f2_⟩ := HR.out.cells
      cases ok1
      · have e : D = (row, (at1, false)) := by
          have := HDD.out
          cases n with
          | zero => rw [← this]; rfl
          | succ n => rw [← this, decS, if_neg (show ¬ (false = true) by decide)]
        subst e
        have hd := HD.out
        simp only [Bool.false_eq_true, if_false, Prod.mk.injEq] at hd
        obtain ⟨rfl, rfl, rfl⟩ := hd
        clear HD HDD
        by_cases hn : n = 0
        · subst hn
          go_wp2
          go_ret3
          exact ⟨_, rfl, Kd.R_nil _ _ _ _ _, below_kp HBL.out HSZ.out.2 HK.out⟩
        · have hgt : decide ((0 : Int) < (n : Int)) = true := decide_eq_true (by omega)
          have hgt2 : ((0 : Int) < (n : Int)) := by omega
          clear hn
          go_wp2
          go_ret3
          exact ⟨_, rfl, Kd.R_nil _ _ _ _ _, below_kp HBL.out HSZ.out.2 HK.out⟩
      · cases n with
        | zero =>
          have e : D = (row, (at1, true)) := by rw [← HDD.out]; rfl
          subst e
          have hd := HD.out
          simp only [if_true, Prod.mk.injEq] at hd
          obtain ⟨rfl, rfl, rfl⟩ := hd
          clear HD HDD
          go_wp2
          go_quiet (fail)
          go_wp2
          go_ret3
          exact ⟨_, rfl, Kd.R_mono (Kd.R_lower (Kd.R_drewN HO.out _) (Nat.le_of_eq HSZ.out.2)) (fun _ _ => trivial), below_kp HBL.out HSZ.out.2 (HK.out.drewN _)⟩
        | succ n =>
          have hgt : decide ((0 : Int) < ((n + 1 : Nat) : Int)) = true := decide_eq_true (by omega)
          have hgt2 : ((0 : Int) < ((n + 1 : Nat) : Int)) := by omega
          have e := Aside0.mk HDD.out
          rw [decS, if_pos rfl] at e
          clear HDD
          have HV := Aside0.mk (Rd.value34 B B A0 c0 l0 (at1, true) 0 (Rd.countedS l0) wr HS.out (Rd.tx_counted HS.out) HR.out ht.out (HX0.out.kp HK.out HS.out.hf) (by have := HK.out.kb.1; have := HSZ.out.1; omega))
          have HT := Aside0.mk (@valueS_at l0 0 (Rd.countedS l0) (at1, true) ht.out (fun s hs => countedS_at HS.out.hv hs))
          have hw : wrap64 (n : Int) = (n : Int) := by have := hl.out; unfold wrap64; omega
          generalize Rd.valueS l0 0 (Rd.countedS l0) (at1, true) = Y at *
          obtain ⟨⟨k, i, l⟩, t2⟩ := Y
          simp only at HV HT e ⊢
          generalize hT : strOfNums l = t at *
          have hT' := Aside0.mk hT
          clear hT
          go_wp2_with fail
          refine HV.out.mono ?_
          rintro e2 w2 ⟨rfl, hR2, hK2⟩
          have HR2 := Aside0.mk hR2
          have HK2 := Aside0.mk (HK.out.trans hK2)
          have HO2 := Aside0.mk (HO.out.kp hK2)
          have HLT2 : Aside0 (B < w2.heap.size) := ⟨by have := HK2.out.kb.1; have := HSZ.out.1; omega⟩
          clear hR2 hK2 HV HR HK HO c0_ c1_ c2_ f0_ f1_ f2_
          go_wp2_with (first | ((with_reducible refine gate_builtin (b := .append) (xs := #[.tmp 28, .tmp 30]) rfl ?_); at_builtin; refine Kd.R_append k43 (w0 := w2.alloc (.cells #[.int .i64 k, .int .i64 i, .string t] 43)) (W := w2.alloc (.cells #[.int .i64 k, .int .i64 i, .string t] 43)) B rfl (.tmp 28) (.tmp 30) 23 43 (.agg #[(.int .i64 0), (.int .i64 0), (.string ⟨#[]⟩)]) 32 rfl Tryd.underlying23 info43 rfl (by decide) (by omega) u6 row ⟨k, i, t⟩ [.int .i64 k, .int .i64 i, .string t] (fun k => B < k) (fun _ => False) rfl (by first | rfl | (go_simp; done) | (go_simp; rfl)) ?aP (fun _ hk => hk.elim) ?aF ?aO ?aB ?aS ?aL ?_; (case aP => exact k43_mkM _ _ _ ⟨k, i, t⟩); (case aF => exact (fun k hk => by rw [World.size_alloc] at hk; have := HLT2.out; omega)); (case aO => exact HO2.out.alloc _); (case aB => exact Below.refl _ _); (case aS => rw [World.size_alloc]; have := HLT2.out; omega); (case aL => have := hl.out; omega); intro v1 w4 hO4 hb4 hg4 hat4))
          go_roundg n
          case measure => have := hg.out; omega
          case rel =>
            refine ⟨n, t2, row ++ [(⟨k, i, t⟩ : S43)], ?_, ⟨Nat.le_refl _⟩, HT, ⟨?_⟩, ⟨hO4⟩, ⟨blk_grown (blk_alloc HR2.out _) hg4 ?_⟩, ⟨(HK2.out.alloc (by have := HSZ.out.1; omega) _).grown (by have := HSZ.out.1; omega) hg4 ?_⟩, ⟨?_⟩⟩
            · first | rfl | rw [hw]
            · have := hl.out; rw [List.length_append]; simp only [List.length_cons, List.length_nil]; omega
            · intro hb; have := HO2.out.1 B hb.symm; omega
            · intro k_ hk_; have := HO2.out.1 k_ hk_; have := HSZ.out.1; omega
            · rw [← hT'.out]; exact e.out
  · rw [if_neg hc] at h; cases h

-- NOT PRINTED: function 36 (code_reader_ended)

/-! ### code_Unkey: function 19 -/
def unkS (xs : List Int) : Nat → List S43 → Nat × Bool → List S43 × (Nat × Bool)
  | 0, row, s => (row, s)
  | f + 1, row, s => if s.2 = true ∧ s.1 < xs.length then unkS xs f (row ++ [vX (Rd.valueS xs 9223372036854775808 (Rd.endedS (xs.length + 2) xs []) s).1]) (Rd.valueS xs 9223372036854775808 (Rd.endedS (xs.length + 2) xs []) s).2 else (row, s)
def unkR (xs : List Int) : List S43 × Int :=
  if (unkS xs (xs.length + 1) [] (0, true)).2.2 = true ∧ (unkS xs (xs.length + 1) [] (0, true)).1.length ≤ 64 then ((unkS xs (xs.length + 1) [] (0, true)).1, 0) else ([], 50)
def code_Unkey.f (l0 : List Int) : Option (List S43 × Int) := if okB l0 then some (unkR l0) else none
theorem takeS_le (xs : List Int) (m : Int) (s : Nat × Bool) : s.1 ≤ (Rd.takeS xs m s).2.1 := by
  unfold Rd.takeS
  split
  · exact Nat.le_add_right _ _
  · exact Nat.le_refl _
theorem endedS_le {xs : List Int} : ∀ (f : Nat) (acc : List Int) (s : Nat × Bool), s.1 ≤ (Rd.endedS f xs acc s).2.1
  | 0, _, _ => Nat.le_refl _
  | f + 1, acc, s => by
    have h1 := @Rd.byteS_le xs 255 s
    have h2 := @Rd.byteS_le xs 255 (Rd.byteS xs 255 s).2
    rw [Rd.endedS]
    split
    · split
      · exact Nat.le_trans h1 (endedS_le f _ _)
      · split
        · exact Nat.le_trans h1 h2
        · split
          · exact Nat.le_trans (Nat.le_trans h1 h2) (endedS_le f _ _)
          · exact Nat.le_trans (Nat.le_trans h1 h2) (endedS_le f _ ((Rd.byteS xs 255 (Rd.byteS xs 255 s).2).2.1, false))
    · exact Nat.le_refl _
theorem byteS_next {xs : List Int} {m : Int} {at_ : Nat} (h : at_ < xs.length) : (Rd.byteS xs m (at_, true)).2.1 = at_ + 1 := by
  unfold Rd.byteS
  rw [if_pos ⟨rfl, h⟩]
  split <;> rfl
theorem valueS_next {xs : List Int} {turned : Int} {tx : Nat × Bool → List Int × (Nat × Bool)} {at_ : Nat} (h : at_ < xs.length) (ht : ∀ s, s.1 ≤ (tx s).2.1) : at_ + 1 ≤ (Rd.valueS xs turned tx (at_, true)).2.1 := by
  have h1 := @byteS_next xs 4 at_ h
  unfold Rd.valueS
  rw [← h1]
  split
  · exact Rd.byteS_le
  · split
    · exact takeS_le _ _ _
    · split
      · exact ht _
      · exact Nat.le_refl _
set_option maxHeartbeats 4000000 in
set_option maxRecDepth 100000 in
theorem code_Unkey.calls (A0 : Option Addr) (c0 : Nat) (l0 : List Int) (r1 : List S43) (r2 : Int) (w : World) (hr0 : Kd.C (Kd.int .u8) w A0 l0.length l0) (hc0 : l0.length ≤ c0) (h : code_Unkey.f l0 = some (r1, r2)) :
    Calls Tryd.prog 19 #[.slice A0 l0.length c0] w fun e w' => ∃ v0_ : Value, e = .returned (.tuple #[v0_, .int .i64 r2]) ∧ Kd.R k43 43 w' w.heap.size (fun _ => True) v0_ r1 ∧ Below w.heap.size w w' := by
  unfold code_Unkey.f at h
  by_cases hc : okB l0
  · rw [if_pos hc] at h
    have HD := Aside0.mk (Option.some.inj h)
    clear h
    obtain ⟨B, hB⟩ : ∃ B, B = w.heap.size := ⟨_, rfl⟩
    have HR0 : Aside0 (Rd.Rdr (w.alloc (.cells #[.slice A0 l0.length c0, .int .i64 0, .bool true] 56)) B A0 l0.length c0 (0, true)) := ⟨Rd.at_new _ _ _ hB⟩
    have HX0 : Aside0 (Rd.Bs (w.alloc (.cells #[.slice A0 l0.length c0, .int .i64 0, .bool true] 56)) A0 l0.length l0) := ⟨Kd.C_alloc hr0 _⟩
    have HS : Aside0 (Rd.Src B B A0 c0 l0) := ⟨⟨Nat.le_refl _, hc.1, hc0, Nat.zero_le _, by rw [hB]; exact far_of hr0, hc.2⟩⟩
    have HBL : Aside0 (Below w.heap.size w (w.alloc (.cells #[.slice A0 l0.length c0, .int .i64 0, .bool true] 56))) := ⟨(Below.refl _ w).alloc (Nat.le_refl _) _⟩
    have HSZ : Aside0 ((w.alloc (.cells #[.slice A0 l0.length c0, .int .i64 0, .bool true] 56)).heap.size = B + 1 ∧ w.heap.size = B) := ⟨by rw [World.size_alloc, hB], hB.symm⟩
    clear hc hc0 hr0
    go_enter Tryd.func19, Tryd.ntmps19
    go_wp2_with fail
    rw [← hB]
    clear hB
    generalize w.alloc (.cells #[.slice A0 l0.length c0, .int .i64 0, .bool true] 56) = w0 at *
    rw [unkR] at HD
    generalize hDD : unkS l0 (l0.length + 1) [] (0, true) = D at *
    have HDD := Aside0.mk hDD
    clear hDD
    have HK0 := Aside0.mk (Rd.Kp.refl B B w0)
    go_wp2
    go_loopg [5] (l0.length + 1) (fun gg s5 wr => ∃ (f : Nat) (t : Nat × Bool) (row : List S43), Aside0 (f ≤ gg) ∧ Aside0 (t.1 ≤ l0.length) ∧ Aside0 (l0.length < t.1 + f) ∧ Aside0 (row.length ≤ t.1) ∧ Aside0 (RowX B wr s5 row) ∧ Aside0 (Rd.Rdr wr B A0 l0.length c0 t) ∧ Aside0 (Rd.Kp B B w0 wr) ∧ Aside0 (unkS l0 f row t = D))
    case atStart => exact ⟨l0.length + 1, (0, true), [], ⟨Nat.le_refl _⟩, ⟨Nat.zero_le _⟩, ⟨by simp⟩, ⟨Nat.le_refl _⟩, ⟨Kd.R_nil _ _ _ _ _⟩, HR0, HK0, HDD⟩
    case round =>
      clear HR0 HK0 HDD
      obtain ⟨f, ⟨at1, ok1⟩, row, hg, ht, hft, hl, HO, HR, HK, HDD⟩ := hrel
      obtain ⟨f, rfl⟩ : ∃ k, f = k + 1 := ⟨f - 1, by have := hft.out; have := ht.out; simp only at *; omega⟩
      obtain ⟨c0_, c1_, c2_, f0_, f1_, f2_⟩ := HR.out.cells
      cases ok1
      · have e : D = (row, (at1, false)) := by rw [← HDD.out, unkS, if_neg (by rintro ⟨h, _⟩; cases h)]
        subst e
        have hd := HD.out
        simp only [Bool.false_eq_true, false_and, if_false, Prod.mk.injEq] at hd
        obtain ⟨rfl, rfl⟩ := hd
        clear HD HDD
        go_wp2
        go_ret2
        exact ⟨_, rfl, Kd.R_nil _ _ _ _ _, below_kp HBL.out HSZ.out.2 HK.out⟩
      · by_cases hlt : at1 < l0.length
        · have hgt : decide (at1 < l0.length) = true := decide_eq_true hlt
          have hgt2 : ((at1 : Int) < (l0.length : Int)) := by omega
          have e := Aside0.mk HDD.out
          rw [unkS, if_pos ⟨rfl, hlt⟩] at e
          clear HDD
          have HV := Aside0.mk (Rd.value36 B B A0 c0 l0 (at1, true) 9223372036854775808 (Rd.endedS (l0.length + 2) l0 []) wr HS.out (Rd.tx_ended HS.out) HR.out ht.out (HX0.out.kp HK.out HS.out.hf) (by have := HK.out.kb.1; have := HSZ.out.1; omega))
          have HT := Aside0.mk (@valueS_at l0 9223372036854775808 (Rd.endedS (l0.length + 2) l0 []) (at1, true) ht.out (fun s hs => endedS_at _ _ s hs))
          have HNX := Aside0.mk (@valueS_next l0 9223372036854775808 (Rd.endedS (l0.length + 2) l0 []) at1 hlt (fun s => endedS_le _ _ s))
          have HLT := Aside0.mk hlt
          clear hlt
          generalize Rd.valueS l0 9223372036854775808 (Rd.endedS (l0.length + 2) l0 []) (at1, true) = Y at *
          obtain ⟨⟨k, i, l⟩, t2⟩ := Y
          simp only at HV HT HNX e ⊢
          generalize hT : strOfNums l = t at *
          have hT' := Aside0.mk hT
          clear hT
          go_wp2_with fail
          refine HV.out.mono ?_
          rintro e2 w2 ⟨rfl, hR2, hK2⟩
          have HR2 := Aside0.mk hR2
          have HK2 := Aside0.mk (HK.out.trans hK2)
          have HO2 := Aside0.mk (HO.out.kp hK2)
          have HLT2 : Aside0 (B < w2.heap.size) := ⟨by have := HK2.out.kb.1; have := HSZ.out.1; omega⟩
          clear hR2 hK2 HV HR HK HO c0_ c1_ c2_ f0_ f1_ f2_
          go_wp2_with (first | ((with_reducible refine gate_builtin (b := .append) (xs := #[.tmp 27, .tmp 29]) rfl ?_); at_builtin; refine Kd.R_append k43 (w0 := w2.alloc (.cells #[.int .i64 k, .int .i64 i, .string t] 43)) (W := w2.alloc (.cells #[.int .i64 k, .int .i64 i, .string t] 43)) B rfl (.tmp 27) (.tmp 29) 23 43 (.agg #[(.int .i64 0), (.int .i64 0), (.string ⟨#[]⟩)]) 32 rfl Tryd.underlying23 info43 rfl (by decide) (by omega) u5 row ⟨k, i, t⟩ [.int .i64 k, .int .i64 i, .string t] (fun k => B < k) (fun _ => False) rfl (by first | rfl | (go_simp; done) | (go_simp; rfl)) ?aP (fun _ hk => hk.elim) ?aF ?aO ?aB ?aS ?aL ?_; (case aP => exact k43_mkM _ _ _ ⟨k, i, t⟩); (case aF => exact (fun k hk => by rw [World.size_alloc] at hk; have := HLT2.out; omega)); (case aO => exact HO2.out.alloc _); (case aB => exact Below.refl _ _); (case aS => rw [World.size_alloc]; have := HLT2.out; omega); (case aL => have := hl.out; have := ht.out; have := HS.out.hn; (try simp only at *); omega); intro v1 w4 hO4 hb4 hg4 hat4))
          go_roundg f
          case measure => have := hg.out; omega
          case rel =>
            refine ⟨f, t2, row ++ [(⟨k, i, t⟩ : S43)], ⟨Nat.le_refl _⟩, HT, ⟨?_⟩, ⟨?_⟩, ⟨hO4⟩, ⟨blk_grown (blk_alloc HR2.out _) hg4 ?_⟩, ⟨(HK2.out.alloc (by have := HSZ.out.1; omega) _).grown (by have := HSZ.out.1; omega) hg4 ?_⟩, ⟨?_⟩⟩
            · have := hft.out; have := HNX.out; (try simp only at this ⊢); omega
            · have := hl.out; have := HNX.out; rw [List.length_append]; simp only [List.length_cons, List.length_nil] at this ⊢; omega
            · intro hb; have := HO2.out.1 B hb.symm; omega
            · intro k_ hk_; have := HO2.out.1 k_ hk_; have := HSZ.out.1; omega
            · rw [← hT'.out]; exact e.out
        · have hgt : decide (at1 < l0.length) = false := decide_eq_false hlt
          have hgt2 : ¬ ((at1 : Int) < (l0.length : Int)) := by omega
          have e : D = (row, (at1, true)) := by rw [← HDD.out, unkS, if_neg (fun h => hlt h.2)]
          subst e
          have hd := HD.out
          clear hlt HD HDD
          obtain ⟨A4, c4, eA, _, _⟩ := Kd.R_reads HO.out
          have HA := Aside0.mk eA
          clear eA
          by_cases h64 : row.length ≤ 64
          · rw [if_pos ⟨rfl, h64⟩] at hd
            simp only [Prod.mk.injEq] at hd
            obtain ⟨rfl, rfl⟩ := hd
            have hq : decide ((64 : Int) < (row.length : Int)) = false := decide_eq_false (by omega)
            have eA := HA.out
            subst eA
            clear h64
            go_wp2
            go_ret2
            exact ⟨_, rfl, Kd.R_mono (Kd.R_lower HO.out (Nat.le_of_eq HSZ.out.2)) (fun _ _ => trivial), below_kp HBL.out HSZ.out.2 HK.out⟩
          · rw [if_neg (fun h => h64 h.2)] at hd
            simp only [Prod.mk.injEq] at hd
            obtain ⟨rfl, rfl⟩ := hd
            have hq : decide ((64 : Int) < (row.length : Int)) = true := decide_eq_true (by omega)
            have eA := HA.out
            subst eA
            clear h64
            go_wp2
            go_ret2
            exact ⟨_, rfl, Kd.R_nil _ _ _ _ _, below_kp HBL.out HSZ.out.2 HK.out⟩
  · rw [if_neg hc] at h; cases h

/-! ### boscageref01_Same: function 43 -/
def boscageref01_Same.f (a0_0 : Int) (a0_1 : Int) (a0_2 : ByteArray) (a1_0 : Int) (a1_1 : Int) (a1_2 : ByteArray) : Option (Bool) := if a0_0 = a1_0 then (if a0_1 = a1_1 then (some (a0_2.toList == a1_2.toList)) else (some false)) else (some false)
set_option maxHeartbeats 8000000 in
set_option maxRecDepth 100000 in
theorem boscageref01_Same.calls (a0_0 : Int) (a0_1 : Int) (a0_2 : ByteArray) (a1_0 : Int) (a1_1 : Int) (a1_2 : ByteArray) (r : Bool) (w : World) (h : boscageref01_Same.f a0_0 a0_1 a0_2 a1_0 a1_1 a1_2 = some r) :
    Calls Tryd.prog 43 #[.agg #[.int .i64 a0_0, .int .i64 a0_1, .string a0_2], .agg #[.int .i64 a1_0, .int .i64 a1_1, .string a1_2]] w fun e w' => e = .returned (.bool r) ∧ Below w.heap.size w w' := by
  have hu43 := Tryd.underlying43
  have HB := Aside0.mk (Below.refl w.heap.size w)
  have H : (if a0_0 = a1_0 then (if a0_1 = a1_1 then (some (a0_2.toList == a1_2.toList)) else (some false)) else (some false)) = some r := h
  clear h
  by_cases c3 : a0_0 = a1_0
  · rw [if_pos c3] at H
    have c3b0 : (a0_0 == a1_0) = true := beq_iff_eq.mpr c3
    have c3b1 : (a0_0 != a1_0) = false := bne_eq_false_iff_eq.mpr c3
    clear c3
    by_cases c4 : a0_1 = a1_1
    · rw [if_pos c4] at H
      have c4b0 : (a0_1 == a1_1) = true := beq_iff_eq.mpr c4
      have c4b1 : (a0_1 != a1_1) = false := bne_eq_false_iff_eq.mpr c4
      clear c4
      obtain rfl := Option.some.inj H
      go_enter Tryd.func43, Tryd.ntmps43
      go_wp2_with (first | ((with_reducible refine gate_dst (N := 2) rfl ?_); refine box_event ?hg (N := 2) ?hd (cs := #[.int .i64 a0_0, .int .i64 a0_1, .string a0_2]) (t := 43) ?hr ?_; (case hd => rfl); (case hg => rfl); (case hr => first | (go_simp; done) | (go_simp; rfl)); intro gb219 hg w5 hbox hb; have n0_ := Aside0.mk (below_step (by repeat (first | (with_reducible first | exact HB.out | apply below_alloc | apply pw_below_drewN | apply below_drew1) | exact HB.out)) hb); have n1_ := Aside0.mk (hbox); have n2_ := Aside0.mk ((by rw [hg]; exact (below_size (by repeat (first | (with_reducible first | exact HB.out | apply below_alloc | apply pw_below_drewN | apply below_drew1) | exact HB.out))) : w.heap.size ≤ gb219)); have n3_ := Aside0.mk ((by rw [hg]; exact (below_size (by repeat (first | (with_reducible first | exact HB.out | apply below_alloc | apply pw_below_drewN | apply below_drew1) | exact HB.out))) : w.heap.size ≤ gb219)); clear HB; have HB := n0_; have BK219 := n1_; have GW219 := n2_; have GE219 := n3_; clear n0_ n1_ n2_ n3_; clear hb hbox hg) | ((with_reducible refine gate_dst (N := 3) rfl ?_); refine box_event ?hg (N := 3) ?hd (cs := #[.int .i64 a1_0, .int .i64 a1_1, .string a1_2]) (t := 43) ?hr ?_; (case hd => rfl); (case hg => rfl); (case hr => first | (go_simp; done) | (go_simp; rfl)); intro gb220 hg w6 hbox hb; have n0_ := Aside0.mk (blk_below (g := gb219) (o := .cells #[.int .i64 a0_0, .int .i64 a0_1, .string a0_2] 43 (0, 0)) (by (with_reducible repeat (first | refine blk_drewN ?_ _ | refine blk_drew ?_ | refine blk_alloc ?_ _)); exact BK219.out) hb); have n1_ := Aside0.mk (below_step (by repeat (first | (with_reducible first | exact HB.out | apply below_alloc | apply pw_below_drewN | apply below_drew1 | refine below_set ?_ GE219.out) | exact HB.out)) hb); have n2_ := Aside0.mk (hbox); have n3_ := Aside0.mk ((by rw [hg]; exact (below_size (by repeat (first | (with_reducible first | exact HB.out | apply below_alloc | apply pw_below_drewN | apply below_drew1 | refine below_set ?_ GE219.out) | exact HB.out))) : w.heap.size ≤ gb220)); have n4_ := Aside0.mk ((by rw [hg]; exact (below_size (by repeat (first | (with_reducible first | exact HB.out | apply below_alloc | apply pw_below_drewN | apply below_drew1 | refine below_set ?_ GE219.out) | exact HB.out))) : w.heap.size ≤ gb220)); have n5_ := Aside0.mk ((by rw [hg]; exact Nat.ne_of_lt (blk_lt (g := gb219) (o := .cells #[.int .i64 a0_0, .int .i64 a0_1, .string a0_2] 43 (0, 0)) (by (with_reducible repeat (first | refine blk_drewN ?_ _ | refine blk_drew ?_ | refine blk_alloc ?_ _)); exact BK219.out)) : gb219 ≠ gb220)); have n6_ := Aside0.mk ((by rw [hg]; exact Nat.ne_of_gt (blk_lt (g := gb219) (o := .cells #[.int .i64 a0_0, .int .i64 a0_1, .string a0_2] 43 (0, 0)) (by (with_reducible repeat (first | refine blk_drewN ?_ _ | refine blk_drew ?_ | refine blk_alloc ?_ _)); exact BK219.out)) : gb220 ≠ gb219)); clear BK219; clear HB; have BK219 := n0_; have HB := n1_; have BK220 := n2_; have GW220 := n3_; have GE220 := n4_; have NB219_220 := n5_; have NB220_219 := n6_; clear n0_ n1_ n2_ n3_ n4_ n5_ n6_; clear hb hbox hg; have hnb7 := NB219_220.out; have hnc7 := NB220_219.out; have hcz8_0 : w6.cell? ⟨gb219, 0, none⟩ = some (.int .i64 a0_0) := (blk_cell BK219.out 0).trans rfl; have hcz8_1 : w6.cell? ⟨gb219, 1, none⟩ = some (.int .i64 a0_1) := (blk_cell BK219.out 1).trans rfl; have hcz8_2 : w6.cell? ⟨gb219, 2, none⟩ = some (.string a0_2) := (blk_cell BK219.out 2).trans rfl; have hfz8_0 := blk_frozen BK219.out 0; have hfz8_1 := blk_frozen BK219.out 1; have hfz8_2 := blk_frozen BK219.out 2; have hcz9_0 : w6.cell? ⟨gb220, 0, none⟩ = some (.int .i64 a1_0) := (blk_cell BK220.out 0).trans rfl; have hcz9_1 : w6.cell? ⟨gb220, 1, none⟩ = some (.int .i64 a1_1) := (blk_cell BK220.out 1).trans rfl; have hcz9_2 : w6.cell? ⟨gb220, 2, none⟩ = some (.string a1_2) := (blk_cell BK220.out 2).trans rfl; have hfz9_0 := blk_frozen BK220.out 0; have hfz9_1 := blk_frozen BK220.out 1; have hfz9_2 := blk_frozen BK220.out 2))
      go_ret
      exact ⟨by first | rfl | (simp [errW_none, errW_some] <;> rfl) | (simp [*, errW_none, errW_some] <;> rfl), by repeat (first | (with_reducible first | exact HB.out | apply below_alloc | apply pw_below_drewN | apply below_drew1 | refine below_set ?_ GE219.out | refine below_set ?_ GE220.out) | exact HB.out)⟩
    · rw [if_neg c4] at H
      have c4b0 : (a0_1 == a1_1) = false := beq_eq_false_iff_ne.mpr c4
      have c4b1 : (a0_1 != a1_1) = true := bne_iff_ne.mpr c4
      obtain rfl := Option.some.inj H
      go_enter Tryd.func43, Tryd.ntmps43
      go_wp2_with (first | ((with_reducible refine gate_dst (N := 2) rfl ?_); refine box_event ?hg (N := 2) ?hd (cs := #[.int .i64 a0_0, .int .i64 a0_1, .string a0_2]) (t := 43) ?hr ?_; (case hd => rfl); (case hg => rfl); (case hr => first | (go_simp; done) | (go_simp; rfl)); intro gb219 hg w10 hbox hb; have n0_ := Aside0.mk (below_step (by repeat (first | (with_reducible first | exact HB.out | apply below_alloc | apply pw_below_drewN | apply below_drew1) | exact HB.out)) hb); have n1_ := Aside0.mk (hbox); have n2_ := Aside0.mk ((by rw [hg]; exact (below_size (by repeat (first | (with_reducible first | exact HB.out | apply below_alloc | apply pw_below_drewN | apply below_drew1) | exact HB.out))) : w.heap.size ≤ gb219)); have n3_ := Aside0.mk ((by rw [hg]; exact (below_size (by repeat (first | (with_reducible first | exact HB.out | apply below_alloc | apply pw_below_drewN | apply below_drew1) | exact HB.out))) : w.heap.size ≤ gb219)); clear HB; have HB := n0_; have BK219 := n1_; have GW219 := n2_; have GE219 := n3_; clear n0_ n1_ n2_ n3_; clear hb hbox hg) | ((with_reducible refine gate_dst (N := 3) rfl ?_); refine box_event ?hg (N := 3) ?hd (cs := #[.int .i64 a1_0, .int .i64 a1_1, .string a1_2]) (t := 43) ?hr ?_; (case hd => rfl); (case hg => rfl); (case hr => first | (go_simp; done) | (go_simp; rfl)); intro gb220 hg w11 hbox hb; have n0_ := Aside0.mk (blk_below (g := gb219) (o := .cells #[.int .i64 a0_0, .int .i64 a0_1, .string a0_2] 43 (0, 0)) (by (with_reducible repeat (first | refine blk_drewN ?_ _ | refine blk_drew ?_ | refine blk_alloc ?_ _)); exact BK219.out) hb); have n1_ := Aside0.mk (below_step (by repeat (first | (with_reducible first | exact HB.out | apply below_alloc | apply pw_below_drewN | apply below_drew1 | refine below_set ?_ GE219.out) | exact HB.out)) hb); have n2_ := Aside0.mk (hbox); have n3_ := Aside0.mk ((by rw [hg]; exact (below_size (by repeat (first | (with_reducible first | exact HB.out | apply below_alloc | apply pw_below_drewN | apply below_drew1 | refine below_set ?_ GE219.out) | exact HB.out))) : w.heap.size ≤ gb220)); have n4_ := Aside0.mk ((by rw [hg]; exact (below_size (by repeat (first | (with_reducible first | exact HB.out | apply below_alloc | apply pw_below_drewN | apply below_drew1 | refine below_set ?_ GE219.out) | exact HB.out))) : w.heap.size ≤ gb220)); have n5_ := Aside0.mk ((by rw [hg]; exact Nat.ne_of_lt (blk_lt (g := gb219) (o := .cells #[.int .i64 a0_0, .int .i64 a0_1, .string a0_2] 43 (0, 0)) (by (with_reducible repeat (first | refine blk_drewN ?_ _ | refine blk_drew ?_ | refine blk_alloc ?_ _)); exact BK219.out)) : gb219 ≠ gb220)); have n6_ := Aside0.mk ((by rw [hg]; exact Nat.ne_of_gt (blk_lt (g := gb219) (o := .cells #[.int .i64 a0_0, .int .i64 a0_1, .string a0_2] 43 (0, 0)) (by (with_reducible repeat (first | refine blk_drewN ?_ _ | refine blk_drew ?_ | refine blk_alloc ?_ _)); exact BK219.out)) : gb220 ≠ gb219)); clear BK219; clear HB; have BK219 := n0_; have HB := n1_; have BK220 := n2_; have GW220 := n3_; have GE220 := n4_; have NB219_220 := n5_; have NB220_219 := n6_; clear n0_ n1_ n2_ n3_ n4_ n5_ n6_; clear hb hbox hg; have hnb12 := NB219_220.out; have hnc12 := NB220_219.out; have hcz13_0 : w11.cell? ⟨gb219, 0, none⟩ = some (.int .i64 a0_0) := (blk_cell BK219.out 0).trans rfl; have hcz13_1 : w11.cell? ⟨gb219, 1, none⟩ = some (.int .i64 a0_1) := (blk_cell BK219.out 1).trans rfl; have hcz13_2 : w11.cell? ⟨gb219, 2, none⟩ = some (.string a0_2) := (blk_cell BK219.out 2).trans rfl; have hfz13_0 := blk_frozen BK219.out 0; have hfz13_1 := blk_frozen BK219.out 1; have hfz13_2 := blk_frozen BK219.out 2; have hcz14_0 : w11.cell? ⟨gb220, 0, none⟩ = some (.int .i64 a1_0) := (blk_cell BK220.out 0).trans rfl; have hcz14_1 : w11.cell? ⟨gb220, 1, none⟩ = some (.int .i64 a1_1) := (blk_cell BK220.out 1).trans rfl; have hcz14_2 : w11.cell? ⟨gb220, 2, none⟩ = some (.string a1_2) := (blk_cell BK220.out 2).trans rfl; have hfz14_0 := blk_frozen BK220.out 0; have hfz14_1 := blk_frozen BK220.out 1; have hfz14_2 := blk_frozen BK220.out 2))
      go_ret
      exact ⟨by first | rfl | (simp [errW_none, errW_some] <;> rfl) | (simp [*, errW_none, errW_some] <;> rfl), by repeat (first | (with_reducible first | exact HB.out | apply below_alloc | apply pw_below_drewN | apply below_drew1 | refine below_set ?_ GE219.out | refine below_set ?_ GE220.out) | exact HB.out)⟩
  · rw [if_neg c3] at H
    have c3b0 : (a0_0 == a1_0) = false := beq_eq_false_iff_ne.mpr c3
    have c3b1 : (a0_0 != a1_0) = true := bne_iff_ne.mpr c3
    obtain rfl := Option.some.inj H
    go_enter Tryd.func43, Tryd.ntmps43
    go_wp2_with (first | ((with_reducible refine gate_dst (N := 2) rfl ?_); refine box_event ?hg (N := 2) ?hd (cs := #[.int .i64 a0_0, .int .i64 a0_1, .string a0_2]) (t := 43) ?hr ?_; (case hd => rfl); (case hg => rfl); (case hr => first | (go_simp; done) | (go_simp; rfl)); intro gb219 hg w15 hbox hb; have n0_ := Aside0.mk (below_step (by repeat (first | (with_reducible first | exact HB.out | apply below_alloc | apply pw_below_drewN | apply below_drew1) | exact HB.out)) hb); have n1_ := Aside0.mk (hbox); have n2_ := Aside0.mk ((by rw [hg]; exact (below_size (by repeat (first | (with_reducible first | exact HB.out | apply below_alloc | apply pw_below_drewN | apply below_drew1) | exact HB.out))) : w.heap.size ≤ gb219)); have n3_ := Aside0.mk ((by rw [hg]; exact (below_size (by repeat (first | (with_reducible first | exact HB.out | apply below_alloc | apply pw_below_drewN | apply below_drew1) | exact HB.out))) : w.heap.size ≤ gb219)); clear HB; have HB := n0_; have BK219 := n1_; have GW219 := n2_; have GE219 := n3_; clear n0_ n1_ n2_ n3_; clear hb hbox hg) | ((with_reducible refine gate_dst (N := 3) rfl ?_); refine box_event ?hg (N := 3) ?hd (cs := #[.int .i64 a1_0, .int .i64 a1_1, .string a1_2]) (t := 43) ?hr ?_; (case hd => rfl); (case hg => rfl); (case hr => first | (go_simp; done) | (go_simp; rfl)); intro gb220 hg w16 hbox hb; have n0_ := Aside0.mk (blk_below (g := gb219) (o := .cells #[.int .i64 a0_0, .int .i64 a0_1, .string a0_2] 43 (0, 0)) (by (with_reducible repeat (first | refine blk_drewN ?_ _ | refine blk_drew ?_ | refine blk_alloc ?_ _)); exact BK219.out) hb); have n1_ := Aside0.mk (below_step (by repeat (first | (with_reducible first | exact HB.out | apply below_alloc | apply pw_below_drewN | apply below_drew1 | refine below_set ?_ GE219.out) | exact HB.out)) hb); have n2_ := Aside0.mk (hbox); have n3_ := Aside0.mk ((by rw [hg]; exact (below_size (by repeat (first | (with_reducible first | exact HB.out | apply below_alloc | apply pw_below_drewN | apply below_drew1 | refine below_set ?_ GE219.out) | exact HB.out))) : w.heap.size ≤ gb220)); have n4_ := Aside0.mk ((by rw [hg]; exact (below_size (by repeat (first | (with_reducible first | exact HB.out | apply below_alloc | apply pw_below_drewN | apply below_drew1 | refine below_set ?_ GE219.out) | exact HB.out))) : w.heap.size ≤ gb220)); have n5_ := Aside0.mk ((by rw [hg]; exact Nat.ne_of_lt (blk_lt (g := gb219) (o := .cells #[.int .i64 a0_0, .int .i64 a0_1, .string a0_2] 43 (0, 0)) (by (with_reducible repeat (first | refine blk_drewN ?_ _ | refine blk_drew ?_ | refine blk_alloc ?_ _)); exact BK219.out)) : gb219 ≠ gb220)); have n6_ := Aside0.mk ((by rw [hg]; exact Nat.ne_of_gt (blk_lt (g := gb219) (o := .cells #[.int .i64 a0_0, .int .i64 a0_1, .string a0_2] 43 (0, 0)) (by (with_reducible repeat (first | refine blk_drewN ?_ _ | refine blk_drew ?_ | refine blk_alloc ?_ _)); exact BK219.out)) : gb220 ≠ gb219)); clear BK219; clear HB; have BK219 := n0_; have HB := n1_; have BK220 := n2_; have GW220 := n3_; have GE220 := n4_; have NB219_220 := n5_; have NB220_219 := n6_; clear n0_ n1_ n2_ n3_ n4_ n5_ n6_; clear hb hbox hg; have hnb17 := NB219_220.out; have hnc17 := NB220_219.out; have hcz18_0 : w16.cell? ⟨gb219, 0, none⟩ = some (.int .i64 a0_0) := (blk_cell BK219.out 0).trans rfl; have hcz18_1 : w16.cell? ⟨gb219, 1, none⟩ = some (.int .i64 a0_1) := (blk_cell BK219.out 1).trans rfl; have hcz18_2 : w16.cell? ⟨gb219, 2, none⟩ = some (.string a0_2) := (blk_cell BK219.out 2).trans rfl; have hfz18_0 := blk_frozen BK219.out 0; have hfz18_1 := blk_frozen BK219.out 1; have hfz18_2 := blk_frozen BK219.out 2; have hcz19_0 : w16.cell? ⟨gb220, 0, none⟩ = some (.int .i64 a1_0) := (blk_cell BK220.out 0).trans rfl; have hcz19_1 : w16.cell? ⟨gb220, 1, none⟩ = some (.int .i64 a1_1) := (blk_cell BK220.out 1).trans rfl; have hcz19_2 : w16.cell? ⟨gb220, 2, none⟩ = some (.string a1_2) := (blk_cell BK220.out 2).trans rfl; have hfz19_0 := blk_frozen BK220.out 0; have hfz19_1 := blk_frozen BK220.out 1; have hfz19_2 := blk_frozen BK220.out 2))
    go_ret
    exact ⟨by first | rfl | (simp [errW_none, errW_some] <;> rfl) | (simp [*, errW_none, errW_some] <;> rfl), by repeat (first | (with_reducible first | exact HB.out | apply below_alloc | apply pw_below_drewN | apply below_drew1 | refine below_set ?_ GE219.out | refine below_set ?_ GE220.out) | exact HB.out)⟩

/-! ### boscageref01_Compare: function 31 -/
def boscageref01_Compare.j0 : Nat → Bool → Int → Int → ByteArray → Int → Int → ByteArray → Option (Int)
  | 0, _, _, _, _, _, _, _ => none
  | k + 1, x5, x222000, x222001, x222002, x223000, x223001, x223002 => if x5 = true then (some (-1)) else ((boscageref01_Same.f x222000 x222001 x222002 x223000 x223001 x223002).bind fun t223 => (if t223 = true then (some 0) else (some 1)))
def boscageref01_Compare.f (k : Nat) (a0_0 : Int) (a0_1 : Int) (a0_2 : ByteArray) (a1_0 : Int) (a1_1 : Int) (a1_2 : ByteArray) : Option (Int) := if a0_0 < a1_0 then (boscageref01_Compare.j0 k true a0_0 a0_1 a0_2 a1_0 a1_1 a1_2) else (if a0_0 = a1_0 then (if a0_1 < a1_1 then (boscageref01_Compare.j0 k true a0_0 a0_1 a0_2 a1_0 a1_1 a1_2) else (if a0_1 = a1_1 then (boscageref01_Compare.j0 k (Op.bytesLess a0_2.toList a1_2.toList) a0_0 a0_1 a0_2 a1_0 a1_1 a1_2) else (boscageref01_Compare.j0 k false a0_0 a0_1 a0_2 a1_0 a1_1 a1_2))) else (boscageref01_Compare.j0 k false a0_0 a0_1 a0_2 a1_0 a1_1 a1_2))
theorem boscageref01_Compare.mono_l : ∀ k, (∀ y0 y1 y2 y3 y4 y5 y6, LeO (boscageref01_Compare.j0 k y0 y1 y2 y3 y4 y5 y6) (boscageref01_Compare.j0 (k + 1) y0 y1 y2 y3 y4 y5 y6))
  | 0 => fun _ _ _ _ _ _ _ r h => by simp [boscageref01_Compare.j0] at h
  | k + 1 => by
    have ih0 := boscageref01_Compare.mono_l k
    · intro y0 y1 y2 y3 y4 y5 y6
      unfold boscageref01_Compare.j0
      repeat' first
      | (with_reducible exact ih0 _ _ _ _ _ _ _)
      | (with_reducible exact LeO.refl _)
      | (with_reducible exact LeO.none _)
      | (with_reducible refine LeO.ite ?_ ?_)
      | (with_reducible refine LeO.bind ?_ (fun _ => ?_))
      | exact ih0 _ _ _ _ _ _ _
      | exact LeO.none _
      | refine LeO.ite ?_ ?_
      | refine LeO.bind ?_ (fun _ => ?_)
theorem boscageref01_Compare.mono : ∀ a0 a1 a2 a3 a4 a5 k, LeO (boscageref01_Compare.f k a0 a1 a2 a3 a4 a5) (boscageref01_Compare.f (k + 1) a0 a1 a2 a3 a4 a5) := by
  intro a0 a1 a2 a3 a4 a5 k
  have ih0 := boscageref01_Compare.mono_l k
  unfold boscageref01_Compare.f
  repeat' first
      | (with_reducible exact ih0 _ _ _ _ _ _ _)
      | (with_reducible exact LeO.refl _)
      | (with_reducible exact LeO.none _)
      | (with_reducible refine LeO.ite ?_ ?_)
      | (with_reducible refine LeO.bind ?_ (fun _ => ?_))
      | exact ih0 _ _ _ _ _ _ _
      | exact LeO.none _
      | refine LeO.ite ?_ ?_
      | refine LeO.bind ?_ (fun _ => ?_)
set_option maxHeartbeats 8000000 in
set_option maxRecDepth 100000 in
theorem boscageref01_Compare.calls (k : Nat) (a0_0 : Int) (a0_1 : Int) (a0_2 : ByteArray) (a1_0 : Int) (a1_1 : Int) (a1_2 : ByteArray) (r : Int) (w : World) (h : boscageref01_Compare.f k a0_0 a0_1 a0_2 a1_0 a1_1 a1_2 = some r) :
    Calls Tryd.prog 31 #[.agg #[.int .i64 a0_0, .int .i64 a0_1, .string a0_2], .agg #[.int .i64 a1_0, .int .i64 a1_1, .string a1_2]] w fun e w' => e = .returned (.int .i64 r) ∧ Below w.heap.size w w' := by
  have hu43 := Tryd.underlying43
  have HB := Aside0.mk (Below.refl w.heap.size w)
  have H : (if a0_0 < a1_0 then (boscageref01_Compare.j0 k true a0_0 a0_1 a0_2 a1_0 a1_1 a1_2) else (if a0_0 = a1_0 then (if a0_1 < a1_1 then (boscageref01_Compare.j0 k true a0_0 a0_1 a0_2 a1_0 a1_1 a1_2) else (if a0_1 = a1_1 then (boscageref01_Compare.j0 k (Op.bytesLess a0_2.toList a1_2.toList) a0_0 a0_1 a0_2 a1_0 a1_1 a1_2) else (boscageref01_Compare.j0 k false a0_0 a0_1 a0_2 a1_0 a1_1 a1_2))) else (boscageref01_Compare.j0 k false a0_0 a0_1 a0_2 a1_0 a1_1 a1_2))) = some r := h
  clear h
  have HC3 := Aside0.mk H
  clear H
  go_enter Tryd.func31, Tryd.ntmps31
  go_upto_region 1 with (first | ((with_reducible refine gate_dst (N := 2) rfl ?_); refine box_event ?hg (N := 2) ?hd (cs := #[.int .i64 a0_0, .int .i64 a0_1, .string a0_2]) (t := 43) ?hr ?_; (case hd => rfl); (case hg => rfl); (case hr => first | (go_simp; done) | (go_simp; rfl)); intro gb221 hg w4 hbox hb; have n0_ := Aside0.mk (below_step (by repeat (first | (with_reducible first | exact HB.out | apply below_alloc | apply pw_below_drewN | apply below_drew1) | exact HB.out)) hb); have n1_ := Aside0.mk (hbox); have n2_ := Aside0.mk ((by rw [hg]; exact (below_size (by repeat (first | (with_reducible first | exact HB.out | apply below_alloc | apply pw_below_drewN | apply below_drew1) | exact HB.out))) : w.heap.size ≤ gb221)); have n3_ := Aside0.mk ((by rw [hg]; exact (below_size (by repeat (first | (with_reducible first | exact HB.out | apply below_alloc | apply pw_below_drewN | apply below_drew1) | exact HB.out))) : w.heap.size ≤ gb221)); clear HB; have HB := n0_; have BK221 := n1_; have GW221 := n2_; have GE221 := n3_; clear n0_ n1_ n2_ n3_; clear hb hbox hg) | ((with_reducible refine gate_dst (N := 3) rfl ?_); refine box_event ?hg (N := 3) ?hd (cs := #[.int .i64 a1_0, .int .i64 a1_1, .string a1_2]) (t := 43) ?hr ?_; (case hd => rfl); (case hg => rfl); (case hr => first | (go_simp; done) | (go_simp; rfl)); intro gb222 hg w5 hbox hb; have n0_ := Aside0.mk (blk_below (g := gb221) (o := .cells #[.int .i64 a0_0, .int .i64 a0_1, .string a0_2] 43 (0, 0)) (by (with_reducible repeat (first | refine blk_drewN ?_ _ | refine blk_drew ?_ | refine blk_alloc ?_ _)); exact BK221.out) hb); have n1_ := Aside0.mk (below_step (by repeat (first | (with_reducible first | exact HB.out | apply below_alloc | apply pw_below_drewN | apply below_drew1 | refine below_set ?_ GE221.out) | exact HB.out)) hb); have n2_ := Aside0.mk (hbox); have n3_ := Aside0.mk ((by rw [hg]; exact (below_size (by repeat (first | (with_reducible first | exact HB.out | apply below_alloc | apply pw_below_drewN | apply below_drew1 | refine below_set ?_ GE221.out) | exact HB.out))) : w.heap.size ≤ gb222)); have n4_ := Aside0.mk ((by rw [hg]; exact (below_size (by repeat (first | (with_reducible first | exact HB.out | apply below_alloc | apply pw_below_drewN | apply below_drew1 | refine below_set ?_ GE221.out) | exact HB.out))) : w.heap.size ≤ gb222)); have n5_ := Aside0.mk ((by rw [hg]; exact Nat.ne_of_lt (blk_lt (g := gb221) (o := .cells #[.int .i64 a0_0, .int .i64 a0_1, .string a0_2] 43 (0, 0)) (by (with_reducible repeat (first | refine blk_drewN ?_ _ | refine blk_drew ?_ | refine blk_alloc ?_ _)); exact BK221.out)) : gb221 ≠ gb222)); have n6_ := Aside0.mk ((by rw [hg]; exact Nat.ne_of_gt (blk_lt (g := gb221) (o := .cells #[.int .i64 a0_0, .int .i64 a0_1, .string a0_2] 43 (0, 0)) (by (with_reducible repeat (first | refine blk_drewN ?_ _ | refine blk_drew ?_ | refine blk_alloc ?_ _)); exact BK221.out)) : gb222 ≠ gb221)); clear BK221; clear HB; have BK221 := n0_; have HB := n1_; have BK222 := n2_; have GW222 := n3_; have GE222 := n4_; have NB221_222 := n5_; have NB222_221 := n6_; clear n0_ n1_ n2_ n3_ n4_ n5_ n6_; clear hb hbox hg))
  (try simp only [Act.put, List.setIfInBounds_toArray, List.set_cons_zero, List.set_cons_succ])
  go_cut [5] (fun v5 wc => ∃ (kq : Nat) (x5_2 : Bool), v5 = .bool x5_2 ∧ Aside0 (boscageref01_Compare.j0 kq x5_2 a0_0 a0_1 a0_2 a1_0 a1_1 a1_2 = some r) ∧ Aside0 (kq ≤ k) ∧ Aside0 (wc.heap[gb221]? = some (.cells #[.int .i64 a0_0, .int .i64 a0_1, .string a0_2] 43 (0, 0))) ∧ Aside0 (wc.heap[gb222]? = some (.cells #[.int .i64 a1_0, .int .i64 a1_1, .string a1_2] 43 (0, 0))) ∧ Aside0 (Below w.heap.size w wc))
  case first =>
    have H := HC3.out
    clear HC3
    by_cases c6 : a0_0 < a1_0
    · rw [if_pos c6] at H
      have c6b0 : decide (a0_0 < a1_0) = true := decide_eq_true c6
      clear c6
      (first | rw [c6b0] | (simp only [i64_w, i32_w]; rw [c6b0]) | skip)
      have H' := Aside0.mk H
      clear H
      have hnb7 := NB221_222.out
      have hnc7 := NB222_221.out
      have hcz8_0 : w5.cell? ⟨gb221, 0, none⟩ = some (.int .i64 a0_0) := (blk_cell BK221.out 0).trans rfl
      have hcz8_1 : w5.cell? ⟨gb221, 1, none⟩ = some (.int .i64 a0_1) := (blk_cell BK221.out 1).trans rfl
      have hcz8_2 : w5.cell? ⟨gb221, 2, none⟩ = some (.string a0_2) := (blk_cell BK221.out 2).trans rfl
      have hfz8_0 := blk_frozen BK221.out 0
      have hfz8_1 := blk_frozen BK221.out 1
      have hfz8_2 := blk_frozen BK221.out 2
      have hcz9_0 : w5.cell? ⟨gb222, 0, none⟩ = some (.int .i64 a1_0) := (blk_cell BK222.out 0).trans rfl
      have hcz9_1 : w5.cell? ⟨gb222, 1, none⟩ = some (.int .i64 a1_1) := (blk_cell BK222.out 1).trans rfl
      have hcz9_2 : w5.cell? ⟨gb222, 2, none⟩ = some (.string a1_2) := (blk_cell BK222.out 2).trans rfl
      have hfz9_0 := blk_frozen BK222.out 0
      have hfz9_1 := blk_frozen BK222.out 1
      have hfz9_2 := blk_frozen BK222.out 2
      go_wp2
      go_meet
      case rel => exact ⟨_, (true), (by first | rfl | (simp; done) | (simp [*]; done) | (simp; first | exact Go.Proofs.YtbojfgjdpfobaaaDoor.Pre.ne1 _ | exact Go.Proofs.YtbojfgjdpfobaaaDoor.Pre.ne2 _ | exact Go.Proofs.YtbojfgjdpfobaaaDoor.Pre.ne3 _ | exact Go.Proofs.YtbojfgjdpfobaaaDoor.Pre.ne4 _ | exact Go.Proofs.YtbojfgjdpfobaaaDoor.Pre.ne5 _ | exact Go.Proofs.YtbojfgjdpfobaaaDoor.Pre.ne6 _)), H', ⟨by first | omega | exact Nat.le_refl _⟩, ⟨by (with_reducible repeat (first | refine blk_drewN ?_ _ | refine blk_drew ?_ | refine blk_alloc ?_ _)); exact BK221.out⟩, ⟨by (with_reducible repeat (first | refine blk_drewN ?_ _ | refine blk_drew ?_ | refine blk_alloc ?_ _)); exact BK222.out⟩, ⟨by repeat (first | (with_reducible first | exact HB.out | apply below_alloc | apply pw_below_drewN | apply below_drew1 | refine below_set ?_ GE221.out | refine below_set ?_ GE222.out) | exact HB.out)⟩⟩
    · rw [if_neg c6] at H
      have c6b0 : decide (a0_0 < a1_0) = false := decide_eq_false c6
      clear c6
      (first | rw [c6b0] | (simp only [i64_w, i32_w]; rw [c6b0]) | skip)
      by_cases c10 : a0_0 = a1_0
      · rw [if_pos c10] at H
        have c10b0 : (a0_0 == a1_0) = true := beq_iff_eq.mpr c10
        have c10b1 : (a0_0 != a1_0) = false := bne_eq_false_iff_eq.mpr c10
        clear c10
        by_cases c11 : a0_1 < a1_1
        · rw [if_pos c11] at H
          have c11b0 : decide (a0_1 < a1_1) = true := decide_eq_true c11
          clear c11
          have H' := Aside0.mk H
          clear H
          have hnb12 := NB221_222.out
          have hnc12 := NB222_221.out
          have hcz13_0 : w5.cell? ⟨gb221, 0, none⟩ = some (.int .i64 a0_0) := (blk_cell BK221.out 0).trans rfl
          have hcz13_1 : w5.cell? ⟨gb221, 1, none⟩ = some (.int .i64 a0_1) := (blk_cell BK221.out 1).trans rfl
          have hcz13_2 : w5.cell? ⟨gb221, 2, none⟩ = some (.string a0_2) := (blk_cell BK221.out 2).trans rfl
          have hfz13_0 := blk_frozen BK221.out 0
          have hfz13_1 := blk_frozen BK221.out 1
          have hfz13_2 := blk_frozen BK221.out 2
          have hcz14_0 : w5.cell? ⟨gb222, 0, none⟩ = some (.int .i64 a1_0) := (blk_cell BK222.out 0).trans rfl
          have hcz14_1 : w5.cell? ⟨gb222, 1, none⟩ = some (.int .i64 a1_1) := (blk_cell BK222.out 1).trans rfl
          have hcz14_2 : w5.cell? ⟨gb222, 2, none⟩ = some (.string a1_2) := (blk_cell BK222.out 2).trans rfl
          have hfz14_0 := blk_frozen BK222.out 0
          have hfz14_1 := blk_frozen BK222.out 1
          have hfz14_2 := blk_frozen BK222.out 2
          go_wp2
          go_meet
          case rel => exact ⟨_, (true), (by first | rfl | (simp; done) | (simp [*]; done) | (simp; first | exact Go.Proofs.YtbojfgjdpfobaaaDoor.Pre.ne1 _ | exact Go.Proofs.YtbojfgjdpfobaaaDoor.Pre.ne2 _ | exact Go.Proofs.YtbojfgjdpfobaaaDoor.Pre.ne3 _ | exact Go.Proofs.YtbojfgjdpfobaaaDoor.Pre.ne4 _ | exact Go.Proofs.YtbojfgjdpfobaaaDoor.Pre.ne5 _ | exact Go.Proofs.YtbojfgjdpfobaaaDoor.Pre.ne6 _)), H', ⟨by first | omega | exact Nat.le_refl _⟩, ⟨by (with_reducible repeat (first | refine blk_drewN ?_ _ | refine blk_drew ?_ | refine blk_alloc ?_ _)); exact BK221.out⟩, ⟨by (with_reducible repeat (first | refine blk_drewN ?_ _ | refine blk_drew ?_ | refine blk_alloc ?_ _)); exact BK222.out⟩, ⟨by repeat (first | (with_reducible first | exact HB.out | apply below_alloc | apply pw_below_drewN | apply below_drew1 | refine below_set ?_ GE221.out | refine below_set ?_ GE222.out) | exact HB.out)⟩⟩
        · rw [if_neg c11] at H
          have c11b0 : decide (a0_1 < a1_1) = false := decide_eq_false c11
          clear c11
          by_cases c15 : a0_1 = a1_1
          · rw [if_pos c15] at H
            have c15b0 : (a0_1 == a1_1) = true := beq_iff_eq.mpr c15
            have c15b1 : (a0_1 != a1_1) = false := bne_eq_false_iff_eq.mpr c15
            clear c15
            have H' := Aside0.mk H
            clear H
            have hnb16 := NB221_222.out
            have hnc16 := NB222_221.out
            have hcz17_0 : w5.cell? ⟨gb221, 0, none⟩ = some (.int .i64 a0_0) := (blk_cell BK221.out 0).trans rfl
            have hcz17_1 : w5.cell? ⟨gb221, 1, none⟩ = some (.int .i64 a0_1) := (blk_cell BK221.out 1).trans rfl
            have hcz17_2 : w5.cell? ⟨gb221, 2, none⟩ = some (.string a0_2) := (blk_cell BK221.out 2).trans rfl
            have hfz17_0 := blk_frozen BK221.out 0
            have hfz17_1 := blk_frozen BK221.out 1
            have hfz17_2 := blk_frozen BK221.out 2
            have hcz18_0 : w5.cell? ⟨gb222, 0, none⟩ = some (.int .i64 a1_0) := (blk_cell BK222.out 0).trans rfl
            have hcz18_1 : w5.cell? ⟨gb222, 1, none⟩ = some (.int .i64 a1_1) := (blk_cell BK222.out 1).trans rfl
            have hcz18_2 : w5.cell? ⟨gb222, 2, none⟩ = some (.string a1_2) := (blk_cell BK222.out 2).trans rfl
            have hfz18_0 := blk_frozen BK222.out 0
            have hfz18_1 := blk_frozen BK222.out 1
            have hfz18_2 := blk_frozen BK222.out 2
            go_wp2
            go_meet
            case rel => exact ⟨_, ((Op.bytesLess a0_2.toList a1_2.toList)), (by first | rfl | (simp; done) | (simp [*]; done) | (simp; first | exact Go.Proofs.YtbojfgjdpfobaaaDoor.Pre.ne1 _ | exact Go.Proofs.YtbojfgjdpfobaaaDoor.Pre.ne2 _ | exact Go.Proofs.YtbojfgjdpfobaaaDoor.Pre.ne3 _ | exact Go.Proofs.YtbojfgjdpfobaaaDoor.Pre.ne4 _ | exact Go.Proofs.YtbojfgjdpfobaaaDoor.Pre.ne5 _ | exact Go.Proofs.YtbojfgjdpfobaaaDoor.Pre.ne6 _)), H', ⟨by first | omega | exact Nat.le_refl _⟩, ⟨by (with_reducible repeat (first | refine blk_drewN ?_ _ | refine blk_drew ?_ | refine blk_alloc ?_ _)); exact BK221.out⟩, ⟨by (with_reducible repeat (first | refine blk_drewN ?_ _ | refine blk_drew ?_ | refine blk_alloc ?_ _)); exact BK222.out⟩, ⟨by repeat (first | (with_reducible first | exact HB.out | apply below_alloc | apply pw_below_drewN | apply below_drew1 | refine below_set ?_ GE221.out | refine below_set ?_ GE222.out) | exact HB.out)⟩⟩
          · rw [if_neg c15] at H
            have c15b0 : (a0_1 == a1_1) = false := beq_eq_false_iff_ne.mpr c15
            have c15b1 : (a0_1 != a1_1) = true := bne_iff_ne.mpr c15
            have H' := Aside0.mk H
            clear H
            have hnb19 := NB221_222.out
            have hnc19 := NB222_221.out
            have hcz20_0 : w5.cell? ⟨gb221, 0, none⟩ = some (.int .i64 a0_0) := (blk_cell BK221.out 0).trans rfl
            have hcz20_1 : w5.cell? ⟨gb221, 1, none⟩ = some (.int .i64 a0_1) := (blk_cell BK221.out 1).trans rfl
            have hcz20_2 : w5.cell? ⟨gb221, 2, none⟩ = some (.string a0_2) := (blk_cell BK221.out 2).trans rfl
            have hfz20_0 := blk_frozen BK221.out 0
            have hfz20_1 := blk_frozen BK221.out 1
            have hfz20_2 := blk_frozen BK221.out 2
            have hcz21_0 : w5.cell? ⟨gb222, 0, none⟩ = some (.int .i64 a1_0) := (blk_cell BK222.out 0).trans rfl
            have hcz21_1 : w5.cell? ⟨gb222, 1, none⟩ = some (.int .i64 a1_1) := (blk_cell BK222.out 1).trans rfl
            have hcz21_2 : w5.cell? ⟨gb222, 2, none⟩ = some (.string a1_2) := (blk_cell BK222.out 2).trans rfl
            have hfz21_0 := blk_frozen BK222.out 0
            have hfz21_1 := blk_frozen BK222.out 1
            have hfz21_2 := blk_frozen BK222.out 2
            go_wp2
            go_meet
            case rel => exact ⟨_, (false), (by first | rfl | (simp; done) | (simp [*]; done) | (simp; first | exact Go.Proofs.YtbojfgjdpfobaaaDoor.Pre.ne1 _ | exact Go.Proofs.YtbojfgjdpfobaaaDoor.Pre.ne2 _ | exact Go.Proofs.YtbojfgjdpfobaaaDoor.Pre.ne3 _ | exact Go.Proofs.YtbojfgjdpfobaaaDoor.Pre.ne4 _ | exact Go.Proofs.YtbojfgjdpfobaaaDoor.Pre.ne5 _ | exact Go.Proofs.YtbojfgjdpfobaaaDoor.Pre.ne6 _)), H', ⟨by first | omega | exact Nat.le_refl _⟩, ⟨by (with_reducible repeat (first | refine blk_drewN ?_ _ | refine blk_drew ?_ | refine blk_alloc ?_ _)); exact BK221.out⟩, ⟨by (with_reducible repeat (first | refine blk_drewN ?_ _ | refine blk_drew ?_ | refine blk_alloc ?_ _)); exact BK222.out⟩, ⟨by repeat (first | (with_reducible first | exact HB.out | apply below_alloc | apply pw_below_drewN | apply below_drew1 | refine below_set ?_ GE221.out | refine below_set ?_ GE222.out) | exact HB.out)⟩⟩
      · rw [if_neg c10] at H
        have c10b0 : (a0_0 == a1_0) = false := beq_eq_false_iff_ne.mpr c10
        have c10b1 : (a0_0 != a1_0) = true := bne_iff_ne.mpr c10
        have H' := Aside0.mk H
        clear H
        have hnb22 := NB221_222.out
        have hnc22 := NB222_221.out
        have hcz23_0 : w5.cell? ⟨gb221, 0, none⟩ = some (.int .i64 a0_0) := (blk_cell BK221.out 0).trans rfl
        have hcz23_1 : w5.cell? ⟨gb221, 1, none⟩ = some (.int .i64 a0_1) := (blk_cell BK221.out 1).trans rfl
        have hcz23_2 : w5.cell? ⟨gb221, 2, none⟩ = some (.string a0_2) := (blk_cell BK221.out 2).trans rfl
        have hfz23_0 := blk_frozen BK221.out 0
        have hfz23_1 := blk_frozen BK221.out 1
        have hfz23_2 := blk_frozen BK221.out 2
        have hcz24_0 : w5.cell? ⟨gb222, 0, none⟩ = some (.int .i64 a1_0) := (blk_cell BK222.out 0).trans rfl
        have hcz24_1 : w5.cell? ⟨gb222, 1, none⟩ = some (.int .i64 a1_1) := (blk_cell BK222.out 1).trans rfl
        have hcz24_2 : w5.cell? ⟨gb222, 2, none⟩ = some (.string a1_2) := (blk_cell BK222.out 2).trans rfl
        have hfz24_0 := blk_frozen BK222.out 0
        have hfz24_1 := blk_frozen BK222.out 1
        have hfz24_2 := blk_frozen BK222.out 2
        go_wp2
        go_meet
        case rel => exact ⟨_, (false), (by first | rfl | (simp; done) | (simp [*]; done) | (simp; first | exact Go.Proofs.YtbojfgjdpfobaaaDoor.Pre.ne1 _ | exact Go.Proofs.YtbojfgjdpfobaaaDoor.Pre.ne2 _ | exact Go.Proofs.YtbojfgjdpfobaaaDoor.Pre.ne3 _ | exact Go.Proofs.YtbojfgjdpfobaaaDoor.Pre.ne4 _ | exact Go.Proofs.YtbojfgjdpfobaaaDoor.Pre.ne5 _ | exact Go.Proofs.YtbojfgjdpfobaaaDoor.Pre.ne6 _)), H', ⟨by first | omega | exact Nat.le_refl _⟩, ⟨by (with_reducible repeat (first | refine blk_drewN ?_ _ | refine blk_drew ?_ | refine blk_alloc ?_ _)); exact BK221.out⟩, ⟨by (with_reducible repeat (first | refine blk_drewN ?_ _ | refine blk_drew ?_ | refine blk_alloc ?_ _)); exact BK222.out⟩, ⟨by repeat (first | (with_reducible first | exact HB.out | apply below_alloc | apply pw_below_drewN | apply below_drew1 | refine below_set ?_ GE221.out | refine below_set ?_ GE222.out) | exact HB.out)⟩⟩
  case rest =>
    clear HC3
    try clear c1
    try clear c2
    try clear p2
    try clear c3
    try clear c6
    try clear c6b0
    try clear c7
    try clear c10
    try clear c10b0
    try clear c10b1
    try clear c11
    try clear c11b0
    try clear c12
    try clear c15
    try clear c15b0
    try clear c15b1
    try clear c16
    try clear c19
    try clear c22
    try clear hcz13_0
    try clear hcz13_1
    try clear hcz13_2
    try clear hcz14_0
    try clear hcz14_1
    try clear hcz14_2
    try clear hcz17_0
    try clear hcz17_1
    try clear hcz17_2
    try clear hcz18_0
    try clear hcz18_1
    try clear hcz18_2
    try clear hcz20_0
    try clear hcz20_1
    try clear hcz20_2
    try clear hcz21_0
    try clear hcz21_1
    try clear hcz21_2
    try clear hcz23_0
    try clear hcz23_1
    try clear hcz23_2
    try clear hcz24_0
    try clear hcz24_1
    try clear hcz24_2
    try clear hcz8_0
    try clear hcz8_1
    try clear hcz8_2
    try clear hcz9_0
    try clear hcz9_1
    try clear hcz9_2
    try clear hfz13_0
    try clear hfz13_1
    try clear hfz13_2
    try clear hfz14_0
    try clear hfz14_1
    try clear hfz14_2
    try clear hfz17_0
    try clear hfz17_1
    try clear hfz17_2
    try clear hfz18_0
    try clear hfz18_1
    try clear hfz18_2
    try clear hfz20_0
    try clear hfz20_1
    try clear hfz20_2
    try clear hfz21_0
    try clear hfz21_1
    try clear hfz21_2
    try clear hfz23_0
    try clear hfz23_1
    try clear hfz23_2
    try clear hfz24_0
    try clear hfz24_1
    try clear hfz24_2
    try clear hfz8_0
    try clear hfz8_1
    try clear hfz8_2
    try clear hfz9_0
    try clear hfz9_1
    try clear hfz9_2
    obtain ⟨kq, x5_2, rfl, HA, HJ2, BK221, BK222, HB⟩ := hcut
    cases kq with
    | zero => exact absurd HA.out (by simp [boscageref01_Compare.j0])
    | succ kj2 =>
      have H := HA.out
      clear HA
      simp only [boscageref01_Compare.j0] at H
      by_cases c25 : x5_2 = true
      · subst c25
        have H1 : (some (-1)) = some r := by rw [if_pos rfl] at H; exact H
        clear H
        have H := H1
        clear H1
        obtain rfl := Option.some.inj H
        go_wp2
        go_ret
        exact ⟨by first | rfl | (simp [errW_none, errW_some] <;> rfl) | (simp [*, errW_none, errW_some] <;> rfl), by repeat (first | (with_reducible first | exact HB.out | apply below_alloc | apply pw_below_drewN | apply below_drew1 | refine below_set ?_ GE221.out | refine below_set ?_ GE222.out) | exact HB.out)⟩
      · replace c25 := Bool.eq_false_iff.mpr c25
        subst c25
        have H1 : ((boscageref01_Same.f a0_0 a0_1 a0_2 a1_0 a1_1 a1_2).bind fun t223 => (if t223 = true then (some 0) else (some 1))) = some r := by rw [if_neg (show ¬ (false = true) by decide)] at H; exact H
        clear H
        have H := H1
        clear H1
        replace H := Option.bind_eq_some_iff.mp H
        obtain ⟨t223, A260, H⟩ := H
        replace H : (if t223 = true then (some 0) else (some 1)) = some r := H
        have A26 := Aside0.mk A260
        clear A260
        by_cases c27 : t223 = true
        · subst c27
          have H1 : (some 0) = some r := by rw [if_pos rfl] at H; exact H
          clear H
          have H := H1
          clear H1
          obtain rfl := Option.some.inj H
          have hnb28 := NB221_222.out
          have hnc28 := NB222_221.out
          have hcz29_0 : wc.cell? ⟨gb221, 0, none⟩ = some (.int .i64 a0_0) := (blk_cell BK221.out 0).trans rfl
          have hcz29_1 : wc.cell? ⟨gb221, 1, none⟩ = some (.int .i64 a0_1) := (blk_cell BK221.out 1).trans rfl
          have hcz29_2 : wc.cell? ⟨gb221, 2, none⟩ = some (.string a0_2) := (blk_cell BK221.out 2).trans rfl
          have hfz29_0 := blk_frozen BK221.out 0
          have hfz29_1 := blk_frozen BK221.out 1
          have hfz29_2 := blk_frozen BK221.out 2
          have hcz30_0 : wc.cell? ⟨gb222, 0, none⟩ = some (.int .i64 a1_0) := (blk_cell BK222.out 0).trans rfl
          have hcz30_1 : wc.cell? ⟨gb222, 1, none⟩ = some (.int .i64 a1_1) := (blk_cell BK222.out 1).trans rfl
          have hcz30_2 : wc.cell? ⟨gb222, 2, none⟩ = some (.string a1_2) := (blk_cell BK222.out 2).trans rfl
          have hfz30_0 := blk_frozen BK222.out 0
          have hfz30_1 := blk_frozen BK222.out 1
          have hfz30_2 := blk_frozen BK222.out 2
          go_wp2_with (first | ((with_reducible refine gate_callee (f := 43) rfl ?_); refine goesL_ (some 49) rfl rfl Tryd.func43 (by kernel_rfl) rfl #[.agg #[.int .i64 a0_0, .int .i64 a0_1, .string a0_2], .agg #[.int .i64 a1_0, .int .i64 a1_1, .string a1_2]] rfl (by (try simp only [List.map_toArray, List.map_cons, List.map_nil]); first | done | rfl | (simp only [List.length_drop, List.length_take]; rfl)) ?_; (with_reducible refine (boscageref01_Same.calls a0_0 a0_1 a0_2 a1_0 a1_1 a1_2 true _ A26.out).mono ?_); rintro e w31 ⟨rfl, hb⟩; refine ⟨_, rfl, ?_⟩; have n0_ := Aside0.mk (blk_below (g := gb221) (o := .cells #[.int .i64 a0_0, .int .i64 a0_1, .string a0_2] 43 (0, 0)) (by (with_reducible repeat (first | refine blk_drewN ?_ _ | refine blk_drew ?_ | refine blk_alloc ?_ _)); exact BK221.out) hb); have n1_ := Aside0.mk (blk_below (g := gb222) (o := .cells #[.int .i64 a1_0, .int .i64 a1_1, .string a1_2] 43 (0, 0)) (by (with_reducible repeat (first | refine blk_drewN ?_ _ | refine blk_drew ?_ | refine blk_alloc ?_ _)); exact BK222.out) hb); have n2_ := Aside0.mk (below_step (by repeat (first | (with_reducible first | exact HB.out | apply below_alloc | apply pw_below_drewN | apply below_drew1 | refine below_set ?_ GE221.out | refine below_set ?_ GE222.out) | exact HB.out)) hb); clear BK221; clear BK222; clear HB; have BK221 := n0_; have BK222 := n1_; have HB := n2_; clear n0_ n1_ n2_; (try clear hb); (try clear hb2); (try clear hk); (try clear hi)))
          go_ret
          exact ⟨by first | rfl | (simp [errW_none, errW_some] <;> rfl) | (simp [*, errW_none, errW_some] <;> rfl), by repeat (first | (with_reducible first | exact HB.out | apply below_alloc | apply pw_below_drewN | apply below_drew1 | refine below_set ?_ GE221.out | refine below_set ?_ GE222.out) | exact HB.out)⟩
        · replace c27 := Bool.eq_false_iff.mpr c27
          subst c27
          have H1 : (some 1) = some r := by rw [if_neg (show ¬ (false = true) by decide)] at H; exact H
          clear H
          have H := H1
          clear H1
          obtain rfl := Option.some.inj H
          have hnb32 := NB221_222.out
          have hnc32 := NB222_221.out
          have hcz33_0 : wc.cell? ⟨gb221, 0, none⟩ = some (.int .i64 a0_0) := (blk_cell BK221.out 0).trans rfl
          have hcz33_1 : wc.cell? ⟨gb221, 1, none⟩ = some (.int .i64 a0_1) := (blk_cell BK221.out 1).trans rfl
          have hcz33_2 : wc.cell? ⟨gb221, 2, none⟩ = some (.string a0_2) := (blk_cell BK221.out 2).trans rfl
          have hfz33_0 := blk_frozen BK221.out 0
          have hfz33_1 := blk_frozen BK221.out 1
          have hfz33_2 := blk_frozen BK221.out 2
          have hcz34_0 : wc.cell? ⟨gb222, 0, none⟩ = some (.int .i64 a1_0) := (blk_cell BK222.out 0).trans rfl
          have hcz34_1 : wc.cell? ⟨gb222, 1, none⟩ = some (.int .i64 a1_1) := (blk_cell BK222.out 1).trans rfl
          have hcz34_2 : wc.cell? ⟨gb222, 2, none⟩ = some (.string a1_2) := (blk_cell BK222.out 2).trans rfl
          have hfz34_0 := blk_frozen BK222.out 0
          have hfz34_1 := blk_frozen BK222.out 1
          have hfz34_2 := blk_frozen BK222.out 2
          go_wp2_with (first | ((with_reducible refine gate_callee (f := 43) rfl ?_); refine goesL_ (some 49) rfl rfl Tryd.func43 (by kernel_rfl) rfl #[.agg #[.int .i64 a0_0, .int .i64 a0_1, .string a0_2], .agg #[.int .i64 a1_0, .int .i64 a1_1, .string a1_2]] rfl (by (try simp only [List.map_toArray, List.map_cons, List.map_nil]); first | done | rfl | (simp only [List.length_drop, List.length_take]; rfl)) ?_; (with_reducible refine (boscageref01_Same.calls a0_0 a0_1 a0_2 a1_0 a1_1 a1_2 false _ A26.out).mono ?_); rintro e w35 ⟨rfl, hb⟩; refine ⟨_, rfl, ?_⟩; have n0_ := Aside0.mk (blk_below (g := gb221) (o := .cells #[.int .i64 a0_0, .int .i64 a0_1, .string a0_2] 43 (0, 0)) (by (with_reducible repeat (first | refine blk_drewN ?_ _ | refine blk_drew ?_ | refine blk_alloc ?_ _)); exact BK221.out) hb); have n1_ := Aside0.mk (blk_below (g := gb222) (o := .cells #[.int .i64 a1_0, .int .i64 a1_1, .string a1_2] 43 (0, 0)) (by (with_reducible repeat (first | refine blk_drewN ?_ _ | refine blk_drew ?_ | refine blk_alloc ?_ _)); exact BK222.out) hb); have n2_ := Aside0.mk (below_step (by repeat (first | (with_reducible first | exact HB.out | apply below_alloc | apply pw_below_drewN | apply below_drew1 | refine below_set ?_ GE221.out | refine below_set ?_ GE222.out) | exact HB.out)) hb); clear BK221; clear BK222; clear HB; have BK221 := n0_; have BK222 := n1_; have HB := n2_; clear n0_ n1_ n2_; (try clear hb); (try clear hb2); (try clear hk); (try clear hi)))
          go_ret
          exact ⟨by first | rfl | (simp [errW_none, errW_some] <;> rfl) | (simp [*, errW_none, errW_some] <;> rfl), by repeat (first | (with_reducible first | exact HB.out | apply below_alloc | apply pw_below_drewN | apply below_drew1 | refine below_set ?_ GE221.out | refine below_set ?_ GE222.out) | exact HB.out)⟩

end Go.Proofs.YtbojfgjdpfobaaaDoor.QCB
