/- slices.SortStableFunc at api.Row, walked on: symMerge, stable (over Sm). -/
import Derived.Test.YtaneicpggglcbaaDoorSm
set_option linter.unusedVariables false
set_option linter.unusedSimpArgs false
namespace Go.Proofs.YtaneicpggglcbaaDoor.Sm
open Go.RowKit Go.Proofs.YtaneicpggglcbaaDoorW.PrintWords
open Go.Sort hiding Below
open Go.Proofs.YtaneicpggglcbaaDoor.So
variable {α : Type} [Inhabited α] {enc : α → Value} {w0 W W' : World} {blk off : Nat} {dk d0 : Array α}
variable {cf : α → α → Int}
theorem halfW {x y h : Nat} (h1 : x + y < 9223372036854775808) (h2 : h = (x + y) / 2) : wrap64 (IntKind.u64.wrap ((x : Int) + (y : Int)) / 2) = (h : Int) := by
  subst h2
  have e : IntKind.u64.wrap ((x : Int) + (y : Int)) = (x : Int) + (y : Int) := by
    simp [IntKind.wrap, IntKind.bits, IntKind.signed]
    omega
  rw [e]
  exact wr64 (by omega) (by omega)
set_option maxHeartbeats 16000000 in
set_option maxRecDepth 1000000 in
/-- symMerge where the left run has one element -/
theorem sym_up (hS : SWO (ltOf cf)) (enc : α → Value) (blk off cap a b : Nat) (d0 d : Array α) (w0 w : World) (hcmp : CmpOk enc cf blk off d0.size w0) (R : Row enc w0 blk off d0) (hs : d.size = d0.size) (S : SB enc w0 blk off d w) (hab : a + 1 < b) (hb : b ≤ d.size) (hsz : d.size < 4611686018427387904)
    (h2 : SortedIn (ltOf cf) (a + 1) b d) :
    Calls Tryd.prog 77 #[.slice (some ⟨blk, off, none⟩) d.size cap, .int .i64 a, .int .i64 ((a + 1 : Nat) : Int), .int .i64 b, .func (.func 24) #[] #[]] w fun e w' => e = .returned (.tuple #[]) ∧ ∃ d', So.Merged (ltOf cf) a b d d' ∧ SB enc w0 blk off d' w' := by
  have hcl0 := R.hO.cells
  simp only [Value.cells] at hcl0
  have hst := R.hO.store Tryd.prog
  have HC := Aside0.mk hcmp
  have S0 := Aside0.mk S
  have HS := Aside0.mk hs
  have HAB := Aside0.mk hab
  have HB := Aside0.mk hb
  have HM := Aside0.mk (So.mono_up (a := a) hS h2)
  have H2 := Aside0.mk h2
  obtain ⟨m, hm⟩ : ∃ q, q = a + 1 := ⟨_, rfl⟩
  have e0 : IntKind.i64.wrap ((m : Int) - (a : Int)) = 1 := by rw [IntKind.wrap_i64]; omega
  rw [← hm] at HM ⊢
  have HMM := Aside0.mk hm
  clear S hcmp hs hab hb h2 hm
  go_enter Tryd.func77, Tryd.ntmps77
  go_wp2
  go_loopg [10, 11] (b - m) (fun gg vi vj wr => ∃ (i j : Nat), vi = .int .i64 i ∧ vj = .int .i64 j ∧ Aside0 (j - i ≤ gg) ∧ Aside0 (So.Found (So.tUp (ltOf cf) d a) m b i j) ∧ Aside0 (SB enc w0 blk off d wr))
  case atStart => exact ⟨m, b, rfl, rfl, ⟨Nat.le_refl _⟩, ⟨So.Found.start _ _ _ (by have := HMM.out; have := HAB.out; omega)⟩, S0⟩
  case round =>
    clear S0
    obtain ⟨i, j, rfl, rfl, hg, hf, S1⟩ := hrel
    by_cases hlt : i < j
    · have hltz : (i : Int) < (j : Int) := by omega
      obtain ⟨h, hh⟩ : ∃ q, q = (i + j) / 2 := ⟨_, rfl⟩
      have ea : wrap64 ((i : Int) + (j : Int)) = ((i + j : Nat) : Int) := wr64 (by omega) (by have := hf.out.c; have := HB.out; omega)
      have eh : wrap64 (IntKind.u64.wrap ((i : Int) + (j : Int)) / 2) = (h : Int) := halfW (by have := hf.out.c; have := HB.out; omega) hh
      have i1 : h < d.size := by have := hf.out.c; have := HB.out; omega
      have i2 : a < d.size := by have := HAB.out; have := HB.out; omega
      have ba : (h : Int) < (d.size : Int) := by omega
      have bb : (a : Int) < (d.size : Int) := by omega
      have pa : (0 : Int) ≤ (h : Int) := Int.natCast_nonneg _
      have pb : (0 : Int) ≤ (a : Int) := Int.natCast_nonneg _
      have hh1 : i ≤ h ∧ h < j := by omega
      have H1 := Aside0.mk hh1
      have l1 : ∀ p : LW enc w0 blk off d, p.w.cell? ⟨blk, off + h, none⟩ = some (enc d[h]!) := fun p => p.h.c1 R HS.out h i1
      have l2 : ∀ p : LW enc w0 blk off d, p.w.cell? ⟨blk, off + a, none⟩ = some (enc d[a]!) := fun p => p.h.c1 R HS.out a i2
      have hc : ∀ p : LW enc w0 blk off d, Calls Tryd.prog 24 #[enc d[h]!, enc d[a]!] p.w fun e w' => e = .returned (.int .i64 (cf d[h]! d[a]!)) ∧ RowKit.Below p.w.heap.size p.w w' := fun p => HC.out d p.w HS.out p.h _ _
      have LT := Aside0.mk hlt
      clear hlt hh hh1 i1 i2
      cases hlv : So.tUp (ltOf cf) d a h with
      | true =>
        have hv : cf d[h]! d[a]! < 0 := of_decide_eq_true hlv
        have HLV := Aside0.mk hlv
        clear hlv
        obtain ⟨x, hx⟩ : ∃ x, x = d[h]! := ⟨_, rfl⟩
        obtain ⟨y, hy⟩ : ∃ x, x = d[a]! := ⟨_, rfl⟩
        rw [← hx] at l1 hc hv
        rw [← hy] at l2 hc hv
        clear hx hy
        have hd : decide (cf x y < 0) = true := decide_eq_true hv
        go_wp2_with fail
        have : Nonempty (LW enc w0 blk off d) := ⟨⟨wr, S1.out⟩⟩
        refine wp_region_lw (by kernel_rfl) S1.out ?_
        repeat (quiet_step (first | (go_at_call 24; exact lw_of (hc _)) | exact lw_of (hc _)))
        refine wpQuiet_nil ?_
        intro _ hw'
        obtain ⟨p, hw''⟩ := hw'
        subst hw''
        have S2 := Aside0.mk p.h
        clear l1 l2 hc
        generalize p.w = w2 at S2 ⊢
        clear p
        have e9 : wrap64 ((h : Int) + 1) = ((h + 1 : Nat) : Int) := wr64 (by omega) (by have := H1.out; have := hf.out.c; have := HB.out; omega)
        go_wp2_with fail
        go_roundg (j - (h + 1))
        case measure => have := hg.out; have := H1.out; omega
        case rel => exact ⟨h + 1, j, by first | rfl | (congr 1), rfl, ⟨Nat.le_refl _⟩, ⟨hf.out.up HM.out H1.out.1 H1.out.2 HLV.out⟩, S2⟩
      | false =>
        have hv : ¬ cf d[h]! d[a]! < 0 := of_decide_eq_false hlv
        have HLV := Aside0.mk hlv
        clear hlv
        obtain ⟨x, hx⟩ : ∃ x, x = d[h]! := ⟨_, rfl⟩
        obtain ⟨y, hy⟩ : ∃ x, x = d[a]! := ⟨_, rfl⟩
        rw [← hx] at l1 hc hv
        rw [← hy] at l2 hc hv
        clear hx hy
        have hd : decide (cf x y < 0) = false := decide_eq_false hv
        go_wp2_with fail
        have : Nonempty (LW enc w0 blk off d) := ⟨⟨wr, S1.out⟩⟩
        refine wp_region_lw (by kernel_rfl) S1.out ?_
        repeat (quiet_step (first | (go_at_call 24; exact lw_of (hc _)) | exact lw_of (hc _)))
        refine wpQuiet_nil ?_
        intro _ hw'
        obtain ⟨p, hw''⟩ := hw'
        subst hw''
        have S2 := Aside0.mk p.h
        clear l1 l2 hc
        generalize p.w = w2 at S2 ⊢
        clear p
        go_wp2_with fail
        go_roundg (h - i)
        case measure => have := hg.out; have := H1.out; omega
        case rel => exact ⟨i, h, rfl, rfl, ⟨Nat.le_refl _⟩, ⟨hf.out.down HM.out H1.out.1 H1.out.2 HLV.out⟩, S2⟩
    · have hltz : ¬ (i : Int) < (j : Int) := by omega
      have hij : j = i := by have := hf.out.b; omega
      subst hij
      have HF : Aside0 (So.Merged (ltOf cf) a b d (So.insUp d a (j - 1 - a))) := ⟨by
        have hm := HMM.out
        have f := hf.out
        rw [hm] at f
        exact So.found_up hS HAB.out HB.out H2.out f⟩
      have FA : Aside0 (a + 1 ≤ j ∧ j ≤ b) := ⟨by have := hf.out.a; have := hf.out.c; have := HMM.out; omega⟩
      obtain ⟨jm, hjm⟩ : ∃ q, q = j - 1 := ⟨_, rfl⟩
      have e7 : wrap64 ((j : Int) - 1) = (jm : Int) := wr64 (by have := FA.out; omega) (by have := FA.out; have := HB.out; omega)
      have FB : Aside0 (a ≤ jm ∧ jm + 1 ≤ b) := ⟨by have := FA.out; omega⟩
      rw [← hjm] at HF
      clear hjm
      have E7 := Aside0.mk e7
      clear hf hlt HC HM e0 hg e7
      go_wp2
      go_loopg [13] (jm - a) (fun gg vk wr2 => ∃ (iN n : Nat) (dk : Array α), vk = .int .i64 iN ∧ Aside0 (iN = a + n ∧ a + n ≤ jm ∧ jm - a - n ≤ gg) ∧ Aside0 (dk = So.insUp d a n) ∧ Aside0 (SB enc w0 blk off dk wr2))
      case atStart => exact ⟨a, 0, d, rfl, ⟨by have := FB.out; omega⟩, ⟨rfl⟩, S1⟩
      case round =>
        clear S1
        obtain ⟨iN, n, dk, rfl, hn, hd, S2⟩ := hrel
        have hi : iN = a + n := hn.out.1
        have hds : dk.size = d.size := by rw [hd.out, So.insUp_size]
        obtain ⟨jN, hj⟩ : ∃ q, q = a + n + 1 := ⟨_, rfl⟩
        by_cases hlt2 : iN < jm
        · have hltz2 : (iN : Int) < (jm : Int) := by omega
          have e8 : IntKind.i64.wrap ((iN : Int) + 1) = (jN : Int) := wrN (by omega) (by have := FB.out; have := HB.out; omega)
          have hia : iN < dk.size := by have := FB.out; have := HB.out; omega
          have hja : jN < dk.size := by have := FB.out; have := HB.out; omega
          have ba : (iN : Int) < (d.size : Int) := by omega
          have bb : (jN : Int) < (d.size : Int) := by omega
          have pa : (0 : Int) ≤ (iN : Int) := Int.natCast_nonneg _
          have pb : (0 : Int) ≤ (jN : Int) := Int.natCast_nonneg _
          have S3 := Aside0.mk (S2.out.swapped iN jN hia hja)
          have c1 := S2.out.c1 R (hds.trans HS.out) iN hia
          have c2 := S2.out.c1 R (hds.trans HS.out) jN hja
          have f1 := S2.out.f1 R (hds.trans HS.out) iN hia
          have f2 := S2.out.f1 R (hds.trans HS.out) jN hja
          obtain ⟨u, c3⟩ := S2.out.c2 R (hds.trans HS.out) iN jN hia hja (enc dk[jN]!)
          have D3 : Aside0 (swp dk iN jN = So.insUp d a (n + 1)) := ⟨by rw [So.insUp, ← hd.out, hi, hj]⟩
          have L3 : Aside0 (iN < jm) := ⟨hlt2⟩
          have HI := Aside0.mk hi
          have HJ := Aside0.mk hj
          generalize dk[iN]! = x at c1 S3
          generalize dk[jN]! = y at c2 c3 S3
          clear hlt2 hi hj
          have e7 := E7.out
          go_wp2_with fail
          clear e7
          go_region
          all_goals (
            clear c1 c2 c3 f1 f2
            generalize ((wr.setCell ⟨blk, off + iN, none⟩ (enc y)).setCell ⟨blk, off + jN, none⟩ (enc x)).drew = w3 at S3 ⊢
            go_wp2
            go_roundg (jm - a - (n + 1))
            case measure => have := hn.out; have := L3.out; have := HI.out; omega
            case rel => exact ⟨jN, n + 1, _, rfl, ⟨by have := L3.out; have := HI.out; have := HJ.out; omega⟩, D3, S3⟩)
        · have hltz2 : ¬ (iN : Int) < (jm : Int) := by omega
          have hnn : n = jm - a := by have := hn.out; have := FB.out; omega
          clear hi
          have hE : Aside0 (dk = So.insUp d a (jm - a)) := ⟨by rw [hd.out, hnn]⟩
          clear hlt2 hnn
          have e7 := E7.out
          go_wp2
          refine bodyPost_ret (results_none rfl _ _ _) rfl ?_
          refine ⟨rfl, _, HF.out, ?_⟩
          rw [← hE.out]
          exact S2.out
set_option maxHeartbeats 16000000 in
set_option maxRecDepth 1000000 in
/-- symMerge where the right run has one element -/
theorem sym_down (hS : SWO (ltOf cf)) (enc : α → Value) (blk off cap a m : Nat) (d0 d : Array α) (w0 w : World) (hcmp : CmpOk enc cf blk off d0.size w0) (R : Row enc w0 blk off d0) (hs : d.size = d0.size) (S : SB enc w0 blk off d w) (hab : a + 1 < m) (hb : m + 1 ≤ d.size) (hsz : d.size < 4611686018427387904)
    (h2 : SortedIn (ltOf cf) a m d) :
    Calls Tryd.prog 77 #[.slice (some ⟨blk, off, none⟩) d.size cap, .int .i64 a, .int .i64 m, .int .i64 ((m + 1 : Nat) : Int), .func (.func 24) #[] #[]] w fun e w' => e = .returned (.tuple #[]) ∧ ∃ d', So.Merged (ltOf cf) a (m + 1) d d' ∧ SB enc w0 blk off d' w' := by
  have hcl0 := R.hO.cells
  simp only [Value.cells] at hcl0
  have hst := R.hO.store Tryd.prog
  have HC := Aside0.mk hcmp
  have S0 := Aside0.mk S
  have HS := Aside0.mk hs
  have HAB := Aside0.mk hab
  have HB := Aside0.mk hb
  have HM := Aside0.mk (So.mono_down hS h2)
  have H2 := Aside0.mk h2
  obtain ⟨b, hm⟩ : ∃ q, q = m + 1 := ⟨_, rfl⟩
  obtain ⟨q0, hq⟩ : ∃ q, q = m - a := ⟨_, rfl⟩
  have e0 : IntKind.i64.wrap ((b : Int) - (m : Int)) = 1 := by rw [IntKind.wrap_i64]; omega
  have e1 : IntKind.i64.wrap ((m : Int) - (a : Int)) = (q0 : Int) := wrN (by omega) (by omega)
  have hq1 : ((q0 : Int) == 1) = false := by simp; omega
  have hq2 : ¬ (q0 : Int) = 1 := by omega
  rw [← hm]
  have HMM := Aside0.mk hm
  clear S hcmp hs hab hb h2 hm hq
  go_enter Tryd.func77, Tryd.ntmps77
  go_wp2
  go_loopg [14, 15] (m - a) (fun gg vi vj wr => ∃ (i j : Nat), vi = .int .i64 i ∧ vj = .int .i64 j ∧ Aside0 (j - i ≤ gg) ∧ Aside0 (So.Found (So.tDown (ltOf cf) d m) a m i j) ∧ Aside0 (SB enc w0 blk off d wr))
  case atStart => exact ⟨a, m, rfl, rfl, ⟨Nat.le_refl _⟩, ⟨So.Found.start _ _ _ (by have := HAB.out; omega)⟩, S0⟩
  case round =>
    clear S0
    obtain ⟨i, j, rfl, rfl, hg, hf, S1⟩ := hrel
    by_cases hlt : i < j
    · have hltz : (i : Int) < (j : Int) := by omega
      obtain ⟨h, hh⟩ : ∃ q, q = (i + j) / 2 := ⟨_, rfl⟩
      have ea : wrap64 ((i : Int) + (j : Int)) = ((i + j : Nat) : Int) := wr64 (by omega) (by have := hf.out.c; have := HB.out; omega)
      have eh : wrap64 (IntKind.u64.wrap ((i : Int) + (j : Int)) / 2) = (h : Int) := halfW (by have := hf.out.c; have := HB.out; omega) hh
      have i1 : h < d.size := by have := hf.out.c; have := HB.out; omega
      have i2 : m < d.size := by have := HB.out; omega
      have ba : (h : Int) < (d.size : Int) := by omega
      have bb : (m : Int) < (d.size : Int) := by omega
      have pa : (0 : Int) ≤ (h : Int) := Int.natCast_nonneg _
      have pb : (0 : Int) ≤ (m : Int) := Int.natCast_nonneg _
      have hh1 : i ≤ h ∧ h < j := by omega
      have H1 := Aside0.mk hh1
      have l1 : ∀ p : LW enc w0 blk off d, p.w.cell? ⟨blk, off + h, none⟩ = some (enc d[h]!) := fun p => p.h.c1 R HS.out h i1
      have l2 : ∀ p : LW enc w0 blk off d, p.w.cell? ⟨blk, off + m, none⟩ = some (enc d[m]!) := fun p => p.h.c1 R HS.out m i2
      have hc : ∀ p : LW enc w0 blk off d, Calls Tryd.prog 24 #[enc d[m]!, enc d[h]!] p.w fun e w' => e = .returned (.int .i64 (cf d[m]! d[h]!)) ∧ RowKit.Below p.w.heap.size p.w w' := fun p => HC.out d p.w HS.out p.h _ _
      have LT := Aside0.mk hlt
      clear hlt hh hh1 i1 i2
      cases hlv : So.tDown (ltOf cf) d m h with
      | true =>
        have hv : ¬ cf d[m]! d[h]! < 0 := by simpa [So.tDown, ltOf] using hlv
        have HLV := Aside0.mk hlv
        clear hlv
        obtain ⟨x, hx⟩ : ∃ x, x = d[h]! := ⟨_, rfl⟩
        obtain ⟨y, hy⟩ : ∃ x, x = d[m]! := ⟨_, rfl⟩
        rw [← hx] at l1 hc hv
        rw [← hy] at l2 hc hv
        clear hx hy
        have hd : decide (cf y x < 0) = false := decide_eq_false hv
        go_wp2_with fail
        have : Nonempty (LW enc w0 blk off d) := ⟨⟨wr, S1.out⟩⟩
        refine wp_region_lw (by kernel_rfl) S1.out ?_
        repeat (quiet_step (first | (go_at_call 24; exact lw_of (hc _)) | exact lw_of (hc _)))
        refine wpQuiet_nil ?_
        intro _ hw'
        obtain ⟨p, hw''⟩ := hw'
        subst hw''
        have S2 := Aside0.mk p.h
        clear l1 l2 hc
        generalize p.w = w2 at S2 ⊢
        clear p
        clear ea eh e0 e1
        have e9 : wrap64 ((h : Int) + 1) = ((h + 1 : Nat) : Int) := wr64 (by omega) (by have := H1.out; have := hf.out.c; have := HB.out; omega)
        go_wp2_with fail
        go_roundg (j - (h + 1))
        case measure => have := hg.out; have := H1.out; omega
        case rel => exact ⟨h + 1, j, by first | rfl | (congr 1), rfl, ⟨Nat.le_refl _⟩, ⟨hf.out.up HM.out H1.out.1 H1.out.2 HLV.out⟩, S2⟩
      | false =>
        have hv : cf d[m]! d[h]! < 0 := by simpa [So.tDown, ltOf] using hlv
        have HLV := Aside0.mk hlv
        clear hlv
        obtain ⟨x, hx⟩ : ∃ x, x = d[h]! := ⟨_, rfl⟩
        obtain ⟨y, hy⟩ : ∃ x, x = d[m]! := ⟨_, rfl⟩
        rw [← hx] at l1 hc hv
        rw [← hy] at l2 hc hv
        clear hx hy
        have hd : decide (cf y x < 0) = true := decide_eq_true hv
        go_wp2_with fail
        have : Nonempty (LW enc w0 blk off d) := ⟨⟨wr, S1.out⟩⟩
        refine wp_region_lw (by kernel_rfl) S1.out ?_
        repeat (quiet_step (first | (go_at_call 24; exact lw_of (hc _)) | exact lw_of (hc _)))
        refine wpQuiet_nil ?_
        intro _ hw'
        obtain ⟨p, hw''⟩ := hw'
        subst hw''
        have S2 := Aside0.mk p.h
        clear l1 l2 hc
        generalize p.w = w2 at S2 ⊢
        clear p
        clear ea eh e0 e1
        go_wp2_with fail
        go_roundg (h - i)
        case measure => have := hg.out; have := H1.out; omega
        case rel => exact ⟨i, h, rfl, rfl, ⟨Nat.le_refl _⟩, ⟨hf.out.down HM.out H1.out.1 H1.out.2 HLV.out⟩, S2⟩
    · have hltz : ¬ (i : Int) < (j : Int) := by omega
      have hij : j = i := by have := hf.out.b; omega
      subst hij
      have HF : Aside0 (So.Merged (ltOf cf) a (m + 1) d (So.insDown d m (m - j))) := ⟨So.found_down hS (by have := HAB.out; omega) HB.out H2.out hf.out⟩
      rw [← HMM.out] at HF
      have FA : Aside0 (a ≤ j ∧ j ≤ m) := ⟨by have := hf.out.a; have := hf.out.c; omega⟩
      clear hf hlt HC HM e0 hg e1 hq1 hq2
      go_wp2
      go_loopg [17] (m - j) (fun gg vk wr2 => ∃ (iN n : Nat) (dk : Array α), vk = .int .i64 iN ∧ Aside0 (iN = m - n ∧ j ≤ iN ∧ n ≤ m ∧ iN - j ≤ gg) ∧ Aside0 (dk = So.insDown d m n) ∧ Aside0 (SB enc w0 blk off dk wr2))
      case atStart => exact ⟨m, 0, d, rfl, ⟨by have := FA.out; omega⟩, ⟨rfl⟩, S1⟩
      case round =>
        clear S1
        obtain ⟨iN, n, dk, rfl, hn, hd, S2⟩ := hrel
        have hi : iN = m - n := hn.out.1
        have hds : dk.size = d.size := by rw [hd.out, So.insDown_size]
        obtain ⟨jN, hj⟩ : ∃ q, q = m - n - 1 := ⟨_, rfl⟩
        by_cases hlt2 : j < iN
        · have hltz2 : (j : Int) < (iN : Int) := by omega
          have hltz3 : (iN : Int) > (j : Int) := by omega
          have e8 : IntKind.i64.wrap ((iN : Int) - 1) = (jN : Int) := wrN (by omega) (by have := HB.out; omega)
          have hia : iN < dk.size := by have := HB.out; omega
          have hja : jN < dk.size := by have := HB.out; omega
          have ba : (iN : Int) < (d.size : Int) := by omega
          have bb : (jN : Int) < (d.size : Int) := by omega
          have pa : (0 : Int) ≤ (iN : Int) := Int.natCast_nonneg _
          have pb : (0 : Int) ≤ (jN : Int) := Int.natCast_nonneg _
          have S3 := Aside0.mk (S2.out.swapped iN jN hia hja)
          have c1 := S2.out.c1 R (hds.trans HS.out) iN hia
          have c2 := S2.out.c1 R (hds.trans HS.out) jN hja
          have f1 := S2.out.f1 R (hds.trans HS.out) iN hia
          have f2 := S2.out.f1 R (hds.trans HS.out) jN hja
          obtain ⟨u, c3⟩ := S2.out.c2 R (hds.trans HS.out) iN jN hia hja (enc dk[jN]!)
          have D3 : Aside0 (swp dk iN jN = So.insDown d m (n + 1)) := ⟨by rw [So.insDown, ← hd.out, hi, hj]⟩
          have L3 : Aside0 (j < iN) := ⟨hlt2⟩
          have HI := Aside0.mk hi
          have HJ := Aside0.mk hj
          generalize dk[iN]! = x at c1 S3
          generalize dk[jN]! = y at c2 c3 S3
          clear hlt2 hi hj
          go_wp2_with fail
          go_region
          all_goals (
            clear c1 c2 c3 f1 f2
            generalize ((wr.setCell ⟨blk, off + iN, none⟩ (enc y)).setCell ⟨blk, off + jN, none⟩ (enc x)).drew = w3 at S3 ⊢
            go_wp2
            go_roundg (jN - j)
            case measure => have := hn.out; have := L3.out; have := HI.out; have := HJ.out; omega
            case rel => exact ⟨jN, n + 1, _, rfl, ⟨by have := L3.out; have := HI.out; have := HJ.out; have := hn.out; omega⟩, D3, S3⟩)
        · have hltz2 : ¬ (j : Int) < (iN : Int) := by omega
          have hnn : n = m - j := by have := hn.out; have := FA.out; omega
          clear hi
          have hE : Aside0 (dk = So.insDown d m (m - j)) := ⟨by rw [hd.out, hnn]⟩
          clear hlt2 hnn
          go_wp2
          refine bodyPost_ret (results_none rfl _ _ _) rfl ?_
          refine ⟨rfl, _, HF.out, ?_⟩
          rw [← hE.out]
          exact S2.out
theorem turned_y (hS : SWO (ltOf cf)) {d : Array α} {a m b s en : Nat} (ham : a < m) (hmb : m < b) (hb : b ≤ d.size) (h1 : SortedIn (ltOf cf) a m d) (h2 : SortedIn (ltOf cf) m b d) (hp : So.Split (ltOf cf) d a m b s) (hen : en = (a + b) / 2 + m - s) (hs : s < m) (he : m < en) :
    So.Turned (ltOf cf) d (So.rotLoop m (en - s) (m - s) (en - m) d) a m b s := by
  subst hen
  exact So.turned_yes hS ham hmb hb h1 h2 hp hs he
set_option maxHeartbeats 16000000 in
set_option maxRecDepth 1000000 in
/-- symMerge where both runs have more than one element; the recursive calls by hypothesis -/
theorem sym_mid (hS : SWO (ltOf cf)) (enc : α → Value) (blk off cap a m b : Nat) (d0 d : Array α) (w0 w : World) (hcmp : CmpOk enc cf blk off d0.size w0) (R : Row enc w0 blk off d0) (hs : d.size = d0.size) (S : SB enc w0 blk off d w) (ham : a + 1 < m) (hmb : m + 1 < b) (hb : b ≤ d.size) (hsz : d.size < 4611686018427387904)
    (h1 : SortedIn (ltOf cf) a m d) (h2 : SortedIn (ltOf cf) m b d)
    (IH : ∀ (a' m' b' : Nat) (d1 : Array α) (w1 : World), b' - a' < b - a → a' < m' → m' < b' → b' ≤ b → d1.size = d.size → SB enc w0 blk off d1 w1 → SortedIn (ltOf cf) a' m' d1 → SortedIn (ltOf cf) m' b' d1 → Calls Tryd.prog 77 #[.slice (some ⟨blk, off, none⟩) d1.size cap, .int .i64 a', .int .i64 m', .int .i64 b', .func (.func 24) #[] #[]] w1 fun e w' => e = .returned (.tuple #[]) ∧ ∃ d', So.Merged (ltOf cf) a' b' d1 d' ∧ SB enc w0 blk off d' w') :
    Calls Tryd.prog 77 #[.slice (some ⟨blk, off, none⟩) d.size cap, .int .i64 a, .int .i64 m, .int .i64 b, .func (.func 24) #[] #[]] w fun e w' => e = .returned (.tuple #[]) ∧ ∃ d', So.Merged (ltOf cf) a b d d' ∧ SB enc w0 blk off d' w' := by
  have hcl0 := R.hO.cells
  simp only [Value.cells] at hcl0
  have hst := R.hO.store Tryd.prog
  have HC := Aside0.mk hcmp
  have S0 := Aside0.mk S
  have HS := Aside0.mk hs
  have R0 := Aside0.mk R
  have H1 := Aside0.mk h1
  have H2 := Aside0.mk h2
  have HI := Aside0.mk IH
  obtain ⟨mid, hmid⟩ : ∃ q, q = (a + b) / 2 := ⟨_, rfl⟩
  obtain ⟨q1, hq1⟩ : ∃ q, q = m - a := ⟨_, rfl⟩
  obtain ⟨q2, hq2⟩ : ∃ q, q = b - m := ⟨_, rfl⟩
  obtain ⟨n, hn⟩ : ∃ q, q = mid + m := ⟨_, rfl⟩
  obtain ⟨p, hp⟩ : ∃ q, q = n - 1 := ⟨_, rfl⟩
  obtain ⟨lo, hlo⟩ : ∃ q, q = So.sLo a m b := ⟨_, rfl⟩
  obtain ⟨hi, hhi⟩ : ∃ q, q = So.sHi a m b := ⟨_, rfl⟩
  have HL : Aside0 (a ≤ lo ∧ lo ≤ hi ∧ hi ≤ m ∧ ∀ c, lo ≤ c → c < hi → m ≤ p - c ∧ p - c < b ∧ c ≤ p) := ⟨by rw [hlo, hhi, hp, hn, hmid]; exact So.sLoHi (by omega) (by omega)⟩
  have HM := Aside0.mk (So.mono_mid hS h1 h2 HL.out.1 HL.out.2.2.1 HL.out.2.2.2)
  have HF : Aside0 (∀ s, So.Found (So.tMid (ltOf cf) d p) lo hi s s → So.Split (ltOf cf) d a m b s) := ⟨fun s f => by rw [hlo, hhi, hp, hn, hmid] at f; exact So.found_mid f⟩
  have N : Aside0 (a + 1 < m ∧ m + 1 < b ∧ b ≤ d.size ∧ d.size < 4611686018427387904 ∧ mid = (a + b) / 2 ∧ n = mid + m ∧ p = n - 1) := ⟨ham, hmb, hb, hsz, hmid, hn, hp⟩
  have e1 : IntKind.i64.wrap ((m : Int) - (a : Int)) = (q1 : Int) := wrN (by omega) (by omega)
  have e2 : IntKind.i64.wrap ((b : Int) - (m : Int)) = (q2 : Int) := wrN (by omega) (by omega)
  have f1 : ((q1 : Int) == 1) = false := by simp; omega
  have f2 : ((q2 : Int) == 1) = false := by simp; omega
  have f1' : ¬ (q1 : Int) = 1 := by omega
  have f2' : ¬ (q2 : Int) = 1 := by omega
  have E0 : Aside0 (wrap64 ((a : Int) + (b : Int)) = (a : Int) + (b : Int)) := ⟨by rw [wr64 (n := a + b) (by omega) (by omega)]; omega⟩
  have e3 : wrap64 (IntKind.u64.wrap ((a : Int) + (b : Int)) / 2) = (mid : Int) := halfW (by omega) hmid
  have E3 := Aside0.mk e3
  clear e3
  have e4 : wrap64 ((mid : Int) + (m : Int)) = (n : Int) := wr64 (by omega) (by omega)
  have E4 := Aside0.mk e4
  clear e4
  have e5 : wrap64 ((n : Int) - 1) = (p : Int) := wr64 (by omega) (by omega)
  have E5 := Aside0.mk e5
  clear e5
  have E6 : Aside0 (m > mid → wrap64 ((n : Int) - (b : Int)) = (lo : Int)) := ⟨fun h => wr64 (by rw [hlo]; unfold So.sLo; rw [if_pos (by omega)]; omega) (by rw [hlo]; unfold So.sLo; rw [if_pos (by omega)]; omega)⟩
  have L1 : Aside0 (m > mid → hi = mid) := ⟨fun h => by rw [hhi]; unfold So.sHi; rw [if_pos (by omega)]; omega⟩
  have L2 : Aside0 (¬ m > mid → lo = a ∧ hi = m) := ⟨fun h => by rw [hlo, hhi]; unfold So.sLo So.sHi; rw [if_neg (by omega), if_neg (by omega)]; exact ⟨rfl, rfl⟩⟩
  clear S hcmp hs h1 h2 IH hmid hq1 hq2 hn hp hlo hhi ham hmb hb
  go_enter Tryd.func77, Tryd.ntmps77
  go_upto_if 140 with fail
  rw [E0.out, E3.out, E4.out]
  clear e1 e2 f1 f2 f1' f2'
  go_cut [20, 21] (fun v20 v21 wc => v20 = .int .i64 lo ∧ v21 = .int .i64 hi ∧ Aside0 (SB enc w0 blk off d wc))
  case first =>
    by_cases hmm : m > mid
    · have hz : (mid : Int) < (m : Int) := by omega
      have hz' : (m : Int) > (mid : Int) := by omega
      have e6 := E6.out hmm
      have l1 := L1.out hmm
      clear hmm
      go_wp2
      go_meet
      exact ⟨by rw [e6], by rw [l1], S0⟩
    · have hz : ¬ (mid : Int) < (m : Int) := by omega
      have hz' : ¬ (m : Int) > (mid : Int) := by omega
      have l2 := L2.out hmm
      clear hmm
      go_wp2
      go_meet
      exact ⟨by rw [l2.1], by rw [l2.2], S0⟩
  case rest =>
  obtain ⟨rfl, rfl, SC⟩ := hcut
  clear S0
  go_wp2_with fail
  rw [E5.out]
  go_loopg [20, 21] (hi - lo) (fun gg vi vj wr => ∃ (i j : Nat), vi = .int .i64 i ∧ vj = .int .i64 j ∧ Aside0 (j - i ≤ gg) ∧ Aside0 (So.Found (So.tMid (ltOf cf) d p) lo hi i j) ∧ Aside0 (SB enc w0 blk off d wr))
  case atStart => exact ⟨lo, hi, rfl, rfl, ⟨Nat.le_refl _⟩, ⟨So.Found.start _ _ _ HL.out.2.1⟩, SC⟩
  case round =>
    clear SC
    obtain ⟨i, j, rfl, rfl, hg, hf, S1⟩ := hrel
    by_cases hlt : i < j
    · have hltz : (i : Int) < (j : Int) := by omega
      obtain ⟨h, hh⟩ : ∃ q, q = (i + j) / 2 := ⟨_, rfl⟩
      have FB : Aside0 (lo ≤ i ∧ j ≤ hi ∧ hi ≤ m) := ⟨hf.out.a, hf.out.c, HL.out.2.2.1⟩
      have hh1 : i ≤ h ∧ h < j := by omega
      have K : Aside0 (m ≤ p - h ∧ p - h < b ∧ h ≤ p) := ⟨HL.out.2.2.2 h (by have := FB.out; omega) (by have := FB.out; omega)⟩
      obtain ⟨g, hgg⟩ : ∃ q, q = p - h := ⟨_, rfl⟩
      have i1 : g < d.size := by have := K.out; have := N.out; omega
      have i2 : h < d.size := by have := FB.out; have := N.out; omega
      have ba : (g : Int) < (d.size : Int) := by omega
      have bb : (h : Int) < (d.size : Int) := by omega
      have pa : (0 : Int) ≤ (g : Int) := Int.natCast_nonneg _
      have pb : (0 : Int) ≤ (h : Int) := Int.natCast_nonneg _
      have e8 : IntKind.i64.wrap ((p : Int) - (h : Int)) = (g : Int) := wrN (by have := K.out; omega) (by have := N.out; omega)
      have H3 := Aside0.mk hh1
      have ET : So.tMid (ltOf cf) d p h = !ltOf cf d[g]! d[h]! := by unfold So.tMid; rw [hgg]
      have l1 : ∀ p : LW enc w0 blk off d, p.w.cell? ⟨blk, off + g, none⟩ = some (enc d[g]!) := fun p => p.h.c1 R0.out HS.out g i1
      have l2 : ∀ p : LW enc w0 blk off d, p.w.cell? ⟨blk, off + h, none⟩ = some (enc d[h]!) := fun p => p.h.c1 R0.out HS.out h i2
      have hc : ∀ p : LW enc w0 blk off d, Calls Tryd.prog 24 #[enc d[g]!, enc d[h]!] p.w fun e w' => e = .returned (.int .i64 (cf d[g]! d[h]!)) ∧ RowKit.Below p.w.heap.size p.w w' := fun p => HC.out d p.w HS.out p.h _ _
      have ea : wrap64 ((i : Int) + (j : Int)) = (i : Int) + (j : Int) := by rw [wr64 (n := i + j) (by omega) (by have := FB.out; have := N.out; omega)]; omega
      have EA := Aside0.mk ea
      clear ea
      have eh : wrap64 (IntKind.u64.wrap ((i : Int) + (j : Int)) / 2) = (h : Int) := halfW (by have := FB.out; have := N.out; omega) hh
      have EH := Aside0.mk eh
      clear eh
      have e9 : wrap64 ((h : Int) + 1) = ((h + 1 : Nat) : Int) := wr64 (by omega) (by have := N.out; have := FB.out; omega)
      have E9 := Aside0.mk e9
      clear e9
      have E8 := Aside0.mk e8
      have LT := Aside0.mk hlt
      clear hlt hh hh1 i1 i2 hgg e8
      have ea := EA.out
      cases hlv : So.tMid (ltOf cf) d p h with
      | true =>
        have hv : ¬ cf d[g]! d[h]! < 0 := by rw [ET] at hlv; simpa [ltOf] using hlv
        have HLV := Aside0.mk hlv
        clear hlv ET
        obtain ⟨y, hy⟩ : ∃ x, x = d[g]! := ⟨_, rfl⟩
        obtain ⟨x, hx⟩ : ∃ x, x = d[h]! := ⟨_, rfl⟩
        rw [← hx] at l2 hc hv
        rw [← hy] at l1 hc hv
        clear hx hy
        have hd : decide (cf y x < 0) = false := decide_eq_false hv
        go_wp2_with fail
        clear ea
        rw [EH.out]
        have e8 := E8.out
        have : Nonempty (LW enc w0 blk off d) := ⟨⟨wr, S1.out⟩⟩
        refine wp_region_lw (by kernel_rfl) S1.out ?_
        repeat (quiet_step (first | (go_at_call 24; exact lw_of (hc _)) | exact lw_of (hc _)))
        refine wpQuiet_nil ?_
        intro _ hw'
        obtain ⟨p, hw''⟩ := hw'
        subst hw''
        have S2 := Aside0.mk p.h
        clear l1 l2 hc e8
        generalize p.w = w2 at S2 ⊢
        clear p
        have e9 := E9.out
        go_wp2_with fail
        clear e9
        go_roundg (j - (h + 1))
        case measure => have := hg.out; have := H3.out; omega
        case rel => exact ⟨h + 1, j, by first | rfl | (congr 1), rfl, ⟨Nat.le_refl _⟩, ⟨hf.out.up HM.out H3.out.1 H3.out.2 HLV.out⟩, S2⟩
      | false =>
        have hv : cf d[g]! d[h]! < 0 := by rw [ET] at hlv; simpa [ltOf] using hlv
        have HLV := Aside0.mk hlv
        clear hlv ET
        obtain ⟨y, hy⟩ : ∃ x, x = d[g]! := ⟨_, rfl⟩
        obtain ⟨x, hx⟩ : ∃ x, x = d[h]! := ⟨_, rfl⟩
        rw [← hx] at l2 hc hv
        rw [← hy] at l1 hc hv
        clear hx hy
        have hd : decide (cf y x < 0) = true := decide_eq_true hv
        go_wp2_with fail
        clear ea
        rw [EH.out]
        have e8 := E8.out
        have : Nonempty (LW enc w0 blk off d) := ⟨⟨wr, S1.out⟩⟩
        refine wp_region_lw (by kernel_rfl) S1.out ?_
        repeat (quiet_step (first | (go_at_call 24; exact lw_of (hc _)) | exact lw_of (hc _)))
        refine wpQuiet_nil ?_
        intro _ hw'
        obtain ⟨p, hw''⟩ := hw'
        subst hw''
        have S2 := Aside0.mk p.h
        clear l1 l2 hc e8
        generalize p.w = w2 at S2 ⊢
        clear p
        go_wp2_with fail
        go_roundg (h - i)
        case measure => have := hg.out; have := H3.out; omega
        case rel => exact ⟨i, h, rfl, rfl, ⟨Nat.le_refl _⟩, ⟨hf.out.down HM.out H3.out.1 H3.out.2 HLV.out⟩, S2⟩
    · have hltz : ¬ (i : Int) < (j : Int) := by omega
      have hij : j = i := by have := hf.out.b; omega
      subst hij
      have HP := Aside0.mk (HF.out j hf.out)
      clear hf hlt HC HM hg HL HF E0 E3 E4 E5 E6 L1 L2
      obtain ⟨en, hen⟩ : ∃ q, q = mid + m - j := ⟨_, rfl⟩
      have NP : Aside0 (a ≤ j ∧ j ≤ m ∧ m ≤ en ∧ en ≤ b ∧ j ≤ mid ∧ mid ≤ en ∧ en = mid + m - j) := ⟨by
        have q := HP.out.nums (by have := N.out; omega) (by have := N.out; omega)
        have := N.out
        obtain ⟨n1, n2, n3, n4, n5, n6⟩ := q
        rw [← this.2.2.2.2.1] at n3 n4 n5 n6
        omega⟩
      have e7 : wrap64 ((n : Int) - (j : Int)) = (en : Int) := wr64 (by have := N.out; have := NP.out; omega) (by have := N.out; have := NP.out; omega)
      clear hen
      go_upto_region 39 with fail
      rw [e7]
      clear e7
      go_cut [185] (fun v wc => ∃ c : Bool, v = .bool c ∧ Aside0 (c = decide (j < m ∧ m < en)) ∧ Aside0 (SB enc w0 blk off d wc))
      case first => as_aux_lemma =>
        by_cases x1 : (j : Int) < (m : Int)
        · by_cases x2 : (m : Int) < (en : Int)
          · have hd : decide (j < m ∧ m < en) = true := decide_eq_true (by omega)
            go_wp2_with fail
            go_meet
            exact ⟨_, rfl, ⟨hd.symm⟩, S1⟩
          · have hd : decide (j < m ∧ m < en) = false := decide_eq_false (by omega)
            go_wp2_with fail
            go_meet
            exact ⟨_, rfl, ⟨hd.symm⟩, S1⟩
        · have hd : decide (j < m ∧ m < en) = false := decide_eq_false (by omega)
          go_wp2_with fail
          go_meet
          exact ⟨_, rfl, ⟨hd.symm⟩, S1⟩
      case rest =>
        as_aux_lemma =>
          obtain ⟨cc, rfl, hcc, SX⟩ := hcut
          clear S1
          go_upto_if 185 with fail
          go_cut [] (fun wc => ∃ d1 : Array α, Aside0 (So.Turned (ltOf cf) d d1 a m b j) ∧ Aside0 (SB enc w0 blk off d1 wc))
          case first => as_aux_lemma =>
            cases cc with
            | true =>
              have hx : Aside0 (j < m ∧ m < en) := ⟨of_decide_eq_true hcc.out.symm⟩
              clear hcc
              have C := rotate_s enc blk off cap j m en d0 d w0 wc R0.out HS.out SX.out hx.out.1 hx.out.2 (by have := N.out; have := NP.out; omega) hsz
              go_wp2_with fail
              refine C.mono ?_
              rintro e w' ⟨rfl, S'⟩
              have S3 := Aside0.mk S'
              clear S' C
              go_wp2
              go_meet
              refine ⟨_, ⟨?_⟩, S3⟩
              exact turned_y hS (by have := N.out; omega) (by have := N.out; omega) N.out.2.2.1 H1.out H2.out HP.out (by rw [NP.out.2.2.2.2.2.2, N.out.2.2.2.2.1]) hx.out.1 hx.out.2
            | false =>
              have hx : Aside0 (¬ (j < m ∧ m < en)) := ⟨of_decide_eq_false hcc.out.symm⟩
              clear hcc
              go_wp2_with fail
              go_meet
              refine ⟨d, ⟨?_⟩, SX⟩
              exact So.turned_no hS (by have := N.out; omega) (by have := N.out; omega) N.out.2.2.1 H1.out H2.out HP.out (by have := hx.out; rw [NP.out.2.2.2.2.2.2, N.out.2.2.2.2.1] at this; exact this)
          case rest =>
            as_aux_lemma =>
              obtain ⟨d1, T1, S3⟩ := hcut
              clear SX hcc cc
              have Z1 : Aside0 (d1.size = d.size) := ⟨T1.out.perm.1⟩
              go_upto_region 41 with fail
              go_cut [199] (fun v wc => ∃ c : Bool, v = .bool c ∧ Aside0 (c = decide (a < j ∧ j < mid)) ∧ Aside0 (SB enc w0 blk off d1 wc))
              case first => as_aux_lemma =>
                by_cases x1 : (a : Int) < (j : Int)
                · by_cases x2 : (j : Int) < (mid : Int)
                  · have hd : decide (a < j ∧ j < mid) = true := decide_eq_true (by omega)
                    go_wp2_with fail
                    go_meet
                    exact ⟨_, rfl, ⟨hd.symm⟩, S3⟩
                  · have hd : decide (a < j ∧ j < mid) = false := decide_eq_false (by omega)
                    go_wp2_with fail
                    go_meet
                    exact ⟨_, rfl, ⟨hd.symm⟩, S3⟩
                · have hd : decide (a < j ∧ j < mid) = false := decide_eq_false (by omega)
                  go_wp2_with fail
                  go_meet
                  exact ⟨_, rfl, ⟨hd.symm⟩, S3⟩
              case rest =>
                as_aux_lemma =>
                  obtain ⟨cc, rfl, hcc, SX⟩ := hcut
                  clear S3
                  go_upto_if 199 with fail
                  go_cut [] (fun wc => ∃ d2 : Array α, Aside0 (So.Merged (ltOf cf) a mid d1 d2) ∧ Aside0 (SB enc w0 blk off d2 wc))
                  case first => as_aux_lemma =>
                    cases cc with
                    | true =>
                      have hx : Aside0 (a < j ∧ j < mid) := ⟨of_decide_eq_true hcc.out.symm⟩
                      clear hcc
                      have C := HI.out a j mid d1 wc (by have := N.out; have := NP.out; omega) hx.out.1 hx.out.2 (by have := NP.out; omega) Z1.out SX.out T1.out.l1 (by rw [N.out.2.2.2.2.1]; exact T1.out.l2)
                      rw [Z1.out] at C
                      go_wp2_with fail
                      refine C.mono ?_
                      rintro e w' ⟨rfl, d2, M2, S'⟩
                      have S4 := Aside0.mk S'
                      have M3 := Aside0.mk M2
                      clear S' C M2
                      go_wp2
                      go_meet
                      exact ⟨d2, M3, S4⟩
                    | false =>
                      have hx : Aside0 (¬ (a < j ∧ j < mid)) := ⟨of_decide_eq_false hcc.out.symm⟩
                      clear hcc
                      go_wp2_with fail
                      go_meet
                      refine ⟨d1, ⟨?_⟩, SX⟩
                      exact So.merged_self T1.out.l1 (by rw [N.out.2.2.2.2.1]; exact T1.out.l2) hx.out
                  case rest =>
                    as_aux_lemma =>
                      obtain ⟨d2, M2, S4⟩ := hcut
                      clear SX hcc cc
                      have Z2 : Aside0 (d2.size = d.size) := ⟨M2.out.1.1.trans Z1.out⟩
                      go_upto_region 43 with fail
                      go_cut [213] (fun v wc => ∃ c : Bool, v = .bool c ∧ Aside0 (c = decide (mid < en ∧ en < b)) ∧ Aside0 (SB enc w0 blk off d2 wc))
                      case first => as_aux_lemma =>
                        by_cases x1 : (mid : Int) < (en : Int)
                        · by_cases x2 : (en : Int) < (b : Int)
                          · have hd : decide (mid < en ∧ en < b) = true := decide_eq_true (by omega)
                            go_wp2_with fail
                            go_meet
                            exact ⟨_, rfl, ⟨hd.symm⟩, S4⟩
                          · have hd : decide (mid < en ∧ en < b) = false := decide_eq_false (by omega)
                            go_wp2_with fail
                            go_meet
                            exact ⟨_, rfl, ⟨hd.symm⟩, S4⟩
                        · have hd : decide (mid < en ∧ en < b) = false := decide_eq_false (by omega)
                          go_wp2_with fail
                          go_meet
                          exact ⟨_, rfl, ⟨hd.symm⟩, S4⟩
                      case rest =>
                        as_aux_lemma =>
                          obtain ⟨cc, rfl, hcc, SX⟩ := hcut
                          clear S4
                          have R1 : Aside0 (SortedIn (ltOf cf) mid en d2) := ⟨M2.out.right (Nat.le_refl _) (by have := T1.out.r1; rw [← N.out.2.2.2.2.1, ← NP.out.2.2.2.2.2.2] at this; exact this)⟩
                          have R2 : Aside0 (SortedIn (ltOf cf) en b d2) := ⟨M2.out.right (by have := NP.out; omega) (by have := T1.out.r2; rw [← N.out.2.2.2.2.1, ← NP.out.2.2.2.2.2.2] at this; exact this)⟩
                          have ALL : Aside0 (∀ d3, So.Merged (ltOf cf) mid b d2 d3 → So.Merged (ltOf cf) a b d d3) := ⟨fun d3 M3 => So.merged_all (by have := N.out; omega) (by have := N.out; omega) N.out.2.2.1 T1.out (by rw [← N.out.2.2.2.2.1]; exact M2.out) (by rw [← N.out.2.2.2.2.1]; exact M3)⟩
                          cases cc with
                          | true =>
                            have hx : Aside0 (mid < en ∧ en < b) := ⟨of_decide_eq_true hcc.out.symm⟩
                            clear hcc
                            have C := HI.out mid en b d2 wc (by have := N.out; have := NP.out; omega) hx.out.1 hx.out.2 (Nat.le_refl _) Z2.out SX.out R1.out R2.out
                            rw [Z2.out] at C
                            go_wp2_with fail
                            refine C.mono ?_
                            rintro e w' ⟨rfl, d3, M3, S'⟩
                            have S5 := Aside0.mk S'
                            have M4 := Aside0.mk M3
                            clear S' C M3
                            go_wp2
                            go_end0
                            exact ⟨rfl, d3, ALL.out d3 M4.out, S5.out⟩
                          | false =>
                            have hx : Aside0 (¬ (mid < en ∧ en < b)) := ⟨of_decide_eq_false hcc.out.symm⟩
                            clear hcc
                            go_wp2_with fail
                            go_end0
                            exact ⟨rfl, d2, ALL.out d2 (So.merged_self R1.out R2.out hx.out), SX.out⟩
end Go.Proofs.YtaneicpggglcbaaDoor.Sm
