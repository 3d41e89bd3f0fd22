/- slices.SortStableFunc at api.Row, walked to its end: symMerge by induction, stable (over Sn). -/
import Derived.Test.YtaneicpggglcbaaDoorSn
set_option linter.unusedVariables false
set_option linter.unusedSimpArgs false
namespace Go.Proofs.YtaneicpggglcbaaDoor.Sm
open Go.RowKit Go.Proofs.YtaneicpggglcbaaDoorW.PrintWords
open Go.Sort hiding Below
open Go.Proofs.YtaneicpggglcbaaDoor.So
variable {α : Type} [Inhabited α] {enc : α → Value} {w0 W W' : World} {blk off : Nat} {dk d0 : Array α}
variable {cf : α → α → Int}
theorem sym_s (hS : SWO (ltOf cf)) (enc : α → Value) (blk off cap : Nat) (d0 : Array α) (w0 : World) (hcmp : CmpOk enc cf blk off d0.size w0) (R : Row enc w0 blk off d0) (hsz : d0.size < 4611686018427387904) :
    ∀ (N a m b : Nat) (d : Array α) (w : World), b - a ≤ N → d.size = d0.size → SB enc w0 blk off d w → a < m → m < b → b ≤ d.size → SortedIn (ltOf cf) a m d → SortedIn (ltOf cf) m b d →
    Calls Tryd.prog 77 #[.slice (some ⟨blk, off, none⟩) d.size cap, .int .i64 a, .int .i64 m, .int .i64 b, .func (.func 24) #[] #[]] w fun e w' => e = .returned (.tuple #[]) ∧ ∃ d', So.Merged (ltOf cf) a b d d' ∧ SB enc w0 blk off d' w'
  | 0, a, m, b, d, w, hN, hs, S, ham, hmb, hb, h1, h2 => by omega
  | N + 1, a, m, b, d, w, hN, hs, S, ham, hmb, hb, h1, h2 => by
    by_cases e1 : m = a + 1
    · subst e1
      exact sym_up hS enc blk off cap a b d0 d w0 w hcmp R hs S hmb hb (by omega) h2
    · by_cases e2 : b = m + 1
      · subst e2
        exact sym_down hS enc blk off cap a m d0 d w0 w hcmp R hs S (by omega) hb (by omega) h1
      · refine sym_mid hS enc blk off cap a m b d0 d w0 w hcmp R hs S (by omega) (by omega) hb (by omega) h1 h2 ?_
        intro a' m' b' d1 w1 hlt g1 g2 g3 g4 g5 g6 g7
        exact sym_s hS enc blk off cap d0 w0 hcmp R hsz N a' m' b' d1 w1 (by omega) (g4.trans hs) g5 g1 g2 (by omega) g6 g7
variable {lt : α → α → Bool}
/-- blocks of width B, in order each -/
def Done (lt : α → α → Bool) (B n q : Nat) (d : Array α) : Prop := ∀ k, k < q → SortedIn lt (k * B) (min ((k + 1) * B) n) d
def Run (lt : α → α → Bool) (B n q : Nat) (d : Array α) : Prop := ∀ k, q ≤ k → SortedIn lt (k * B) (min ((k + 1) * B) n) d
theorem sorted_out {d d' : Array α} {a b x y : Nat} (h : SortedIn lt x y d) (hp : PermIn a b d d') (ho : y ≤ a ∨ b ≤ x) : SortedIn lt x y d' := by
  intro i j h1 h2 h3
  rw [hp.2.1 i (by omega), hp.2.1 j (by omega)]
  exact h i j h1 h2 h3
omit [Inhabited α] in
theorem sorted_none [Inhabited α] {d : Array α} {x y : Nat} (h : y ≤ x) : SortedIn lt x y d := fun i j h1 h2 h3 => by omega
theorem Done.step {B n q b : Nat} {d d' : Array α} (h : Done lt B n q d) (hp : PermIn (q * B) b d d') (hs : SortedIn lt (q * B) b d') (hb : b = min ((q + 1) * B) n) : Done lt B n (q + 1) d' := by
  intro k hk
  by_cases e : k = q
  · subst e; rw [← hb]; exact hs
  · have hm : (k + 1) * B ≤ q * B := Nat.mul_le_mul_right B (by omega)
    exact sorted_out (h k (by omega)) hp (.inl (by omega))
theorem Done.run {B n q : Nat} {d : Array α} (h : Done lt B n q d) (hn : n ≤ q * B) : Run lt B n 0 d := by
  intro k _
  by_cases e : k < q
  · exact h k e
  · have hm : q * B ≤ k * B := Nat.mul_le_mul_right B (by omega)
    exact sorted_none (by omega)
theorem Run.step {B n q a b : Nat} {d d' : Array α} (h : Run lt B n (2 * q) d) (hp : PermIn a b d d') (hb : b = (2 * q + 2) * B) : Run lt B n (2 * (q + 1)) d' := by
  intro k hk
  have hm : (2 * q + 2) * B ≤ k * B := Nat.mul_le_mul_right B (by omega)
  exact sorted_out (h k (by omega)) hp (.inr (by omega))
theorem run_all {B n : Nat} {d : Array α} (h : Run lt B n 0 d) (hn : n ≤ B) : SortedIn lt 0 n d := by
  have := h 0 (Nat.le_refl _)
  rw [Nat.zero_mul, Nat.zero_add, Nat.one_mul, Nat.min_eq_right hn] at this
  exact this
theorem perm_all {d d1 d2 : Array α} {n a b : Nat} (h : PermIn 0 n d d1) (h2 : PermIn a b d1 d2) (hb : b ≤ n) (hn : n ≤ d.size) : PermIn 0 n d d2 :=
  permIn_trans _ _ _ _ _ h (permIn_mono _ _ _ _ _ _ (Nat.zero_le _) hb (by rw [h.1]; exact hn) h2)
set_option maxHeartbeats 16000000 in
set_option maxRecDepth 1000000 in
theorem stable_s (hS : SWO (ltOf cf)) (enc : α → Value) (blk off cap : Nat) (d : Array α) (w : World) (hcmp : CmpOk enc cf blk off d.size w) (R : Row enc w blk off d) (hsz : d.size < 1099511627776) :
    Calls Tryd.prog 67 #[.slice (some ⟨blk, off, none⟩) d.size cap, .int .i64 d.size, .func (.func 24) #[] #[]] w fun e w' => e = .returned (.tuple #[]) ∧ ∃ d', PermIn 0 d.size d d' ∧ SortedIn (ltOf cf) 0 d.size d' ∧ SB enc w blk off d' w' := by
  have S0 := Aside0.mk (SB.start R)
  obtain ⟨n, hn⟩ : ∃ q, q = d.size := ⟨_, rfl⟩
  have HN := Aside0.mk hn
  have hsz' : n < 1099511627776 := by omega
  have SYM : Aside0 (∀ (a m b : Nat) (d1 : Array α) (w1 : World), d1.size = n → SB enc w blk off d1 w1 → a < m → m < b → b ≤ n → SortedIn (ltOf cf) a m d1 → SortedIn (ltOf cf) m b d1 → Calls Tryd.prog 77 #[.slice (some ⟨blk, off, none⟩) n cap, .int .i64 a, .int .i64 m, .int .i64 b, .func (.func 24) #[] #[]] w1 fun e w' => e = .returned (.tuple #[]) ∧ ∃ d', So.Merged (ltOf cf) a b d1 d' ∧ SB enc w blk off d' w') := ⟨fun a m b d1 w1 g1 g2 g3 g4 g5 g6 g7 => by
    have := sym_s hS enc blk off cap d w hcmp R (by omega) (b - a) a m b d1 w1 (Nat.le_refl _) (g1.trans hn) g2 g3 g4 (by omega) g6 g7
    rw [g1] at this; exact this⟩
  have INS : Aside0 (∀ (a b : Nat) (d1 : Array α) (w1 : World), d1.size = n → SB enc w blk off d1 w1 → a ≤ b → b ≤ n → Calls Tryd.prog 76 #[.slice (some ⟨blk, off, none⟩) n cap, .int .i64 a, .int .i64 b, .func (.func 24) #[] #[]] w1 fun e w' => e = .returned (.tuple #[]) ∧ ∃ d', PermIn a b d1 d' ∧ SortedIn (ltOf cf) a b d' ∧ SB enc w blk off d' w') := ⟨fun a b d1 w1 g1 g2 g3 g4 => by
    have := insertion_s enc cf blk off cap a b d d1 w w1 hcmp R (g1.trans hn) g2 g3 (by omega) (by omega)
    rw [g1] at this
    have q := insertionSort_holds (lt := ltOf cf) hS d1 a b g3 (by omega)
    exact this.mono fun e w' ⟨he, hs⟩ => ⟨he, _, q.1, q.2, hs⟩⟩
  rw [← hn]
  clear hsz hcmp R
  have D0 : Aside0 (PermIn 0 n d d) := ⟨permIn_refl _ _ _⟩
  clear hn
  go_enter Tryd.func67, Tryd.ntmps67
  go_wp2
  go_loopg [7, 8] n (fun gg va vb wr => ∃ (q a b : Nat) (dk : Array α), va = .int .i64 a ∧ vb = .int .i64 b ∧ Aside0 (a = q * 20 ∧ b = a + 20 ∧ a ≤ n ∧ n - a ≤ gg) ∧ Aside0 (dk.size = n) ∧ Aside0 (PermIn 0 n d dk) ∧ Aside0 (Done (ltOf cf) 20 n q dk) ∧ Aside0 (SB enc w blk off dk wr))
  case atStart => exact ⟨0, 0, 20, d, rfl, rfl, ⟨by omega⟩, ⟨HN.out.symm⟩, D0, ⟨fun k hk => absurd hk (Nat.not_lt_zero _)⟩, S0⟩
  case round =>
    clear S0
    obtain ⟨q, a, b, dk, rfl, rfl, hq, hz, hp, hd, S1⟩ := hrel
    by_cases hlt : b ≤ n
    · have hltz : (b : Int) ≤ (n : Int) := by omega
      have eb : wrap64 ((b : Int) + 20) = ((b + 20 : Nat) : Int) := wr64 (by omega) (by omega)
      have C := INS.out a b dk wr hz.out S1.out (by have := hq.out; omega) hlt
      have LT := Aside0.mk hlt
      clear hlt
      have EB := Aside0.mk eb
      clear eb
      go_wp2_with fail
      refine C.mono ?_
      rintro e w' ⟨rfl, d2, P2, O2, S'⟩
      have S2 := Aside0.mk S'
      have P3 := Aside0.mk P2
      have O3 := Aside0.mk O2
      clear S' C P2 O2
      have eb := EB.out
      go_wp2_with fail
      clear eb
      go_roundg (n - b)
      case measure => have := hq.out; have := LT.out; omega
      case rel => exact ⟨q + 1, b, b + 20, d2, rfl, by first | rfl | congr 1, ⟨by have := hq.out; have := LT.out; omega⟩, ⟨by rw [P3.out.1]; exact hz.out⟩, ⟨perm_all hp.out P3.out LT.out (by have := HN.out; omega)⟩, ⟨by
        have h1 := P3.out; have h2 := O3.out
        rw [hq.out.1] at h1 h2
        exact hd.out.step h1 h2 (by have := hq.out; have := LT.out; omega)⟩, S2⟩
    · have hltz : ¬ (b : Int) ≤ (n : Int) := by omega
      have C := INS.out a n dk wr hz.out S1.out (by have := hq.out; omega) (Nat.le_refl _)
      have LT := Aside0.mk hlt
      clear hlt
      go_wp2_with fail
      refine C.mono ?_
      rintro e w' ⟨rfl, d2, P2, O2, S'⟩
      have S2 := Aside0.mk S'
      have Z2 : Aside0 (d2.size = n) := ⟨by rw [P2.1]; exact hz.out⟩
      have P3 : Aside0 (PermIn 0 n d d2) := ⟨perm_all hp.out P2 (Nat.le_refl _) (by have := HN.out; omega)⟩
      have O3 : Aside0 (Run (ltOf cf) 20 n 0 d2) := ⟨by
        rw [hq.out.1] at P2 O2
        exact (hd.out.step P2 O2 (by have := hq.out; have := LT.out; omega)).run (by have := hq.out; have := LT.out; omega)⟩
      clear S' C P2 O2 hq hz hp hd S1 LT hltz
      go_wp2
      go_loopg [6, 7, 8, 9] n (fun gg vs va vb vm wr => ∃ (bs : Nat) (dk : Array α), vs = .int .i64 bs ∧ Aside0 (0 < bs ∧ bs < 2199023255552 ∧ n - bs ≤ gg) ∧ Aside0 (dk.size = n) ∧ Aside0 (PermIn 0 n d dk) ∧ Aside0 (Run (ltOf cf) bs n 0 dk) ∧ Aside0 (SB enc w blk off dk wr))
      case atStart => exact ⟨20, d2, rfl, ⟨by omega⟩, Z2, P3, O3, S2⟩
      case round =>
        clear Z2 P3 O3 S2
        obtain ⟨bs, dk, rfl, hb, hz, hp, hd, S1⟩ := hrel
        by_cases hlt : bs < n
        · have hltz : (bs : Int) < (n : Int) := by omega
          have e1 : IntKind.i64.wrap (2 * (bs : Int)) = ((2 * bs : Nat) : Int) := wrN (by omega) (by have := hb.out; omega)
          obtain ⟨b2, hb2⟩ : ∃ q, q = 2 * bs := ⟨_, rfl⟩
          rw [← hb2] at e1
          have HB2 := Aside0.mk hb2
          have LT := Aside0.mk hlt
          clear hlt hb2
          have I0 : Aside0 (b2 = 2 * bs ∧ 0 < bs ∧ bs < 2199023255552 ∧ bs < n) := ⟨by have := HB2.out; have := hb.out; have := LT.out; omega⟩
          go_wp2_with fail
          go_loopg [7, 8] n (fun g2 va vb wr2 => ∃ (q a b : Nat) (dj : Array α), va = .int .i64 a ∧ vb = .int .i64 b ∧ Aside0 (a = q * b2 ∧ b = a + b2 ∧ a ≤ n ∧ n - a ≤ g2) ∧ Aside0 (dj.size = n) ∧ Aside0 (PermIn 0 n d dj) ∧ Aside0 (Done (ltOf cf) b2 n q dj) ∧ Aside0 (Run (ltOf cf) bs n (2 * q) dj) ∧ Aside0 (SB enc w blk off dj wr2))
          case atStart => exact ⟨0, 0, b2, dk, rfl, rfl, ⟨by omega⟩, hz, hp, ⟨fun k hk => absurd hk (Nat.not_lt_zero _)⟩, hd, S1⟩
          case round =>
            clear S1 hz hp hd
            obtain ⟨q, a, b, dj, rfl, rfl, hq, hz, hp, hd, hr, S1⟩ := hrel
            have HR : Aside0 (SortedIn (ltOf cf) a (min (a + bs) n) dj) := ⟨by
              have := hr.out (2 * q) (Nat.le_refl _)
              have e2 : 2 * q * bs = a := by rw [hq.out.1, I0.out.1, Nat.mul_comm 2 q, Nat.mul_assoc]
              rw [Nat.add_mul, Nat.one_mul, e2] at this; exact this⟩
            have HR2 : Aside0 (SortedIn (ltOf cf) (a + bs) (min (a + bs + bs) n) dj) := ⟨by
              have := hr.out (2 * q + 1) (by omega)
              have e2 : 2 * q * bs = a := by rw [hq.out.1, I0.out.1, Nat.mul_comm 2 q, Nat.mul_assoc]
              have e3 : (2 * q + 1) * bs = a + bs := by rw [Nat.add_mul, Nat.one_mul, e2]
              have e4 : (2 * q + 1 + 1) * bs = a + bs + bs := by rw [Nat.add_mul, Nat.one_mul, e3]
              rw [e4, e3] at this; exact this⟩
            have HB : Aside0 (b = (2 * q + 2) * bs) := ⟨by
              have h1 := hq.out.1; have h2 := hq.out.2.1; have h3 := I0.out.1
              rw [h2, h1, h3, Nat.add_mul, Nat.mul_comm 2 q, Nat.mul_assoc]⟩
            have HQ : Aside0 (b = (q + 1) * b2) := ⟨by rw [hq.out.2.1, hq.out.1, Nat.add_mul, Nat.one_mul]⟩
            obtain ⟨m, hm⟩ : ∃ q, q = a + bs := ⟨_, rfl⟩
            have HM := Aside0.mk hm
            have em : IntKind.i64.wrap ((a : Int) + (bs : Int)) = (m : Int) := wrN (by omega) (by have := hq.out; have := I0.out; omega)
            have em' : wrap64 ((a : Int) + (bs : Int)) = (m : Int) := wr64 (by omega) (by have := hq.out; have := I0.out; omega)
            have EM := Aside0.mk em
            have EM' := Aside0.mk em'
            clear em em' hm
            by_cases hlt : b ≤ n
            · have hltz : (b : Int) ≤ (n : Int) := by omega
              have c1 : SortedIn (ltOf cf) a m dj := by
                have := HR.out
                rw [← HM.out, Nat.min_eq_left (by have := HM.out; have := I0.out; have := hq.out; omega)] at this
                exact this
              have c2 : SortedIn (ltOf cf) m b dj := by
                have := HR2.out
                have e : m + bs = b := by have := HM.out; have := I0.out; have := hq.out; omega
                rw [← HM.out, e, Nat.min_eq_left hlt] at this
                exact this
              have C := SYM.out a m b dj wr hz.out S1.out (by have := HM.out; have := I0.out; omega) (by have := HM.out; have := I0.out; have := hq.out; omega) hlt c1 c2
              clear c1 c2
              have LT2 := Aside0.mk hlt
              clear hlt
              obtain ⟨b3, hb3⟩ : ∃ q, q = b + b2 := ⟨_, rfl⟩
              have HB3 := Aside0.mk hb3
              have eb : wrap64 ((b : Int) + (b2 : Int)) = (b3 : Int) := wr64 (by omega) (by have := I0.out; have := LT2.out; omega)
              clear hb3
              have EB := Aside0.mk eb
              clear eb
              have em := EM.out
              have em' := EM'.out
              go_wp2_with fail
              clear em em'
              refine C.mono ?_
              rintro e w' ⟨rfl, d2, M2, S'⟩
              have S2 := Aside0.mk S'
              have M3 := Aside0.mk M2
              clear S' C M2
              have eb := EB.out
              go_wp2_with fail
              clear eb
              go_roundg (n - b)
              case measure => have := hq.out; have := LT2.out; have := I0.out; omega
              case rel => exact ⟨q + 1, b, b3, d2, rfl, by rw [EB.out], ⟨HQ.out, HB3.out, LT2.out, Nat.le_refl _⟩, ⟨by rw [M3.out.1.1]; exact hz.out⟩, ⟨perm_all hp.out M3.out.1 LT2.out (by have := HN.out; omega)⟩, ⟨by
                have h1 := M3.out.1; have h2 := M3.out.2
                rw [hq.out.1] at h1 h2
                exact hd.out.step h1 h2 (by have := HQ.out; have := LT2.out; omega)⟩, ⟨hr.out.step M3.out.1 HB.out⟩, S2⟩
            · have hltz : ¬ (b : Int) ≤ (n : Int) := by omega
              have LT2 := Aside0.mk hlt
              clear hlt
              have e2 : IntKind.i64.wrap ((bs : Int) * 2) = (b2 : Int) := wrN (by have := I0.out; omega) (by have := I0.out; omega)
              by_cases hmn : m < n
              · have hmz : (m : Int) < (n : Int) := by omega
                have C := SYM.out a m n dj wr hz.out S1.out (by have := HM.out; have := I0.out; omega) hmn (Nat.le_refl _) (by have := HR.out; rw [← HM.out, Nat.min_eq_left (by omega)] at this; exact this) (by have := HR2.out; rw [← HM.out, Nat.min_eq_right (by have := HM.out; have := I0.out; have := hq.out; have := LT2.out; omega)] at this; exact this)
                clear hmn
                have em := EM.out
                have em' := EM'.out
                go_wp2_with fail
                clear em em'
                refine C.mono ?_
                rintro e w' ⟨rfl, d2, M2, S'⟩
                have S2 := Aside0.mk S'
                have M3 := Aside0.mk M2
                clear S' C M2
                have O : Aside0 (Run (ltOf cf) b2 n 0 d2) := ⟨by
                  have h1 := M3.out.1; have h2 := M3.out.2
                  rw [hq.out.1] at h1 h2
                  exact (hd.out.step h1 h2 (by have := HQ.out; have := LT2.out; omega)).run (by have := HQ.out; have := LT2.out; omega)⟩
                go_wp2_with fail
                go_roundg (n - b2)
                case measure => have := hb.out; have := I0.out; omega
                case rel => exact ⟨b2, d2, rfl, ⟨by have := I0.out; omega⟩, ⟨by rw [M3.out.1.1]; exact hz.out⟩, ⟨perm_all hp.out M3.out.1 (Nat.le_refl _) (by have := HN.out; omega)⟩, O, S2⟩
              · have hmz : ¬ (m : Int) < (n : Int) := by omega
                have O : Aside0 (Run (ltOf cf) b2 n 0 dj) := ⟨by
                  have h2 := HR.out
                  rw [← HM.out, Nat.min_eq_right (by omega), hq.out.1] at h2
                  have h1 := permIn_refl dj (q * b2) n
                  exact (hd.out.step h1 h2 (by have := HQ.out; have := LT2.out; omega)).run (by have := HQ.out; have := LT2.out; omega)⟩
                clear hmn
                have em := EM.out
                have em' := EM'.out
                go_wp2_with fail
                clear em em'
                go_roundg (n - b2)
                case measure => have := hb.out; have := I0.out; omega
                case rel => exact ⟨b2, dj, rfl, ⟨by have := I0.out; omega⟩, hz, hp, O, S1⟩
        · have hltz : ¬ (bs : Int) < (n : Int) := by omega
          have F : Aside0 (SortedIn (ltOf cf) 0 n dk) := ⟨run_all hd.out (by omega)⟩
          clear hlt
          go_wp2
          go_end0
          exact ⟨rfl, dk, hp.out, F.out, S1.out⟩
end Go.Proofs.YtaneicpggglcbaaDoor.Sm
