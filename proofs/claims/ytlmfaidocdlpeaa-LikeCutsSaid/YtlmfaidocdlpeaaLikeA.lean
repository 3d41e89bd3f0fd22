/- The program's next, Check, Like and Prefix come to the plain law's words. -/
import Derived.Test.YtlmfaidocdlpeaaLike
set_option linter.unusedVariables false
set_option linter.unusedSimpArgs false
namespace Go.Proofs.Ytlmfaidocdlpeaa.Lk
open Go.RowKit Go.Proofs.YtlmfaidocdlpeaaW.PrintWords Go.Proofs.Ytlmfaidocdlpeaa.Pu Go.Proofs.Ytlmfaidocdlpeaa.QLK

def pc : Piece → Int
  | .any => 37
  | .one => 95
  | .ch c => c.toNat
def pl : Piece → Bool
  | .ch _ => true
  | _ => false

theorem index3 (d : UInt8) : strings_IndexByte.f (⟨#[37, 95, 92]⟩ : ByteArray) (d.toNat : Int) = some (if d.toNat = 37 then 0 else if d.toNat = 95 then 1 else if d.toNat = 92 then 2 else -1) := by
  unfold strings_IndexByte.f
  have e : ((d.toNat : Int)).toNat.toUInt8 = d := by rw [Int.toNat_natCast]; exact byte_back d
  rw [e]
  congr 1
  show Lib.indexByte [37, 95, 92] d = _
  have h1 : ((37 : UInt8) == d) = decide (d.toNat = 37) := by
    by_cases h : d.toNat = 37
    · have : d = 37 := byte_inj h
      subst this; rfl
    · have : ¬ (37 : UInt8) = d := fun h' => h (by rw [← h']; rfl)
      simp [h, this]
  have h2 : ((95 : UInt8) == d) = decide (d.toNat = 95) := by
    by_cases h : d.toNat = 95
    · have : d = 95 := byte_inj h
      subst this; rfl
    · have : ¬ (95 : UInt8) = d := fun h' => h (by rw [← h']; rfl)
      simp [h, this]
  have h3 : ((92 : UInt8) == d) = decide (d.toNat = 92) := by
    by_cases h : d.toNat = 92
    · have : d = 92 := byte_inj h
      subst this; rfl
    · have : ¬ (92 : UInt8) = d := fun h' => h (by rw [← h']; rfl)
      simp [h, this]
  simp only [Lib.indexByte, h1, h2, h3]
  by_cases a : d.toNat = 37
  · simp [a]
  · by_cases b : d.toNat = 95
    · simp [b]
    · by_cases c : d.toNat = 92
      · simp [c]
      · simp [a, b, c]

theorem next_no {x : ByteArray} {l : List UInt8} (hx : bs x = l) (hl : l ≠ []) (h : next l = none) : Ev (fun k => like_next.f k x) (0, 0, false) := by
  match l, hl, h with
  | c :: p, _, h =>
    have hs := bs_length x
    rw [hx, List.length_cons] at hs
    have b0 : bt x 0 = c.toNat := bt_drop (i := 0) (by simpa using hx)
    have c92 : c.toNat = 92 := by
      apply Classical.byContradiction
      intro hc
      rw [next, if_neg hc] at h
      split at h
      · cases h
      · split at h <;> cases h
    rw [next, if_pos c92] at h
    unfold like_next.f
    refine Ev.pos (by omega) ?_
    simp only [b0, c92]
    refine Ev.neg (by decide) ?_
    refine Ev.at1 ?_
    simp only [like_next.j0]
    refine Ev.pos rfl ?_
    match p, h with
    | [], h =>
      simp only [List.length_nil] at hs
      exact Ev.pos (by omega) (Ev.now _)
    | d :: q, h =>
      simp only [List.length_cons] at hs
      refine Ev.neg (by omega) ?_
      refine Ev.pos (by omega) ?_
      have b1 : bt x 1 = d.toNat := bt_drop (i := 1) (by rw [hx]; rfl)
      have hd : ¬ (d.toNat = 37 ∨ d.toNat = 95 ∨ d.toNat = 92) := by
        intro hd
        rw [esc, if_pos hd] at h
        cases h
      rw [b1, index3, if_neg (by omega), if_neg (by omega), if_neg (by omega)]
      refine Ev.given ?_
      exact Ev.pos (by omega) (Ev.now _)

theorem next_yes {x : ByteArray} {l r : List UInt8} {pi : Piece} (hx : bs x = l) (h : next l = some (pi, r)) :
    ∃ n : Nat, 1 ≤ n ∧ n ≤ l.length ∧ r = l.drop n ∧ Ev (fun k => like_next.f k x) (pc pi, (n : Int), pl pi) := by
  match l, h with
  | c :: p, h =>
    have hs := bs_length x
    rw [hx, List.length_cons] at hs
    have b0 : bt x 0 = c.toNat := bt_drop (i := 0) (by simpa using hx)
    have bl := byte_lt c
    by_cases c92 : c.toNat = 92
    · rw [next, if_pos c92] at h
      match p, h with
      | d :: q, h =>
        have hd : d.toNat = 37 ∨ d.toNat = 95 ∨ d.toNat = 92 := by
          apply Classical.byContradiction
          intro hd
          rw [esc, if_neg hd] at h
          cases h
        rw [esc, if_pos hd] at h
        simp only [Option.some.injEq, Prod.mk.injEq] at h
        obtain ⟨rfl, rfl⟩ := h
        simp only [List.length_cons] at hs
        refine ⟨2, by omega, by simp, rfl, ?_⟩
        have b1 : bt x 1 = d.toNat := bt_drop (i := 1) (by rw [hx]; rfl)
        unfold like_next.f
        refine Ev.pos (by omega) ?_
        simp only [b0, c92]
        refine Ev.neg (by decide) ?_
        refine Ev.at1 ?_
        simp only [like_next.j0]
        refine Ev.pos rfl ?_
        refine Ev.neg (by omega) ?_
        refine Ev.pos (by omega) ?_
        rw [b1, index3]
        refine Ev.given ?_
        refine Ev.neg (by rcases hd with h | h | h <;> simp [h]) ?_
        exact Ev.done (by simp [pc, pl])
    · refine ⟨1, by omega, by simp, ?_, ?_⟩
      · obtain ⟨n, _⟩ := next_shorter h
        rw [next, if_neg c92] at h
        split at h
        · simp only [Option.some.injEq, Prod.mk.injEq] at h; simp [h.2]
        · split at h
          · simp only [Option.some.injEq, Prod.mk.injEq] at h; simp [h.2]
          · simp only [Option.some.injEq, Prod.mk.injEq] at h; simp [h.2]
      · unfold like_next.f
        refine Ev.pos (by omega) ?_
        rw [next, if_neg c92] at h
        by_cases c37 : c.toNat = 37
        · rw [if_pos c37] at h
          simp only [Option.some.injEq, Prod.mk.injEq] at h
          obtain ⟨rfl, rfl⟩ := h
          refine Ev.pos (by omega) ?_
          refine Ev.at1 ?_
          simp only [like_next.j0]
          refine Ev.neg (by omega) ?_
          exact Ev.done (by rw [b0, c37]; rfl)
        · rw [if_neg c37] at h
          refine Ev.neg (by omega) ?_
          refine Ev.at1 ?_
          simp only [like_next.j0]
          refine Ev.neg (by omega) ?_
          by_cases c95 : c.toNat = 95
          · rw [if_pos c95] at h
            simp only [Option.some.injEq, Prod.mk.injEq] at h
            obtain ⟨rfl, rfl⟩ := h
            exact Ev.done (by rw [b0, c95]; rfl)
          · rw [if_neg c95] at h
            simp only [Option.some.injEq, Prod.mk.injEq] at h
            obtain ⟨rfl, rfl⟩ := h
            have e : (((c.toNat : Int)) != 95) = true := by rw [bne_iff_ne]; omega
            exact Ev.done (by rw [b0, e]; rfl)

theorem check_ev (x : ByteArray) : Ev (fun k => like_Check.f k x) (if (pieces (bs x)).isSome then 0 else 40) := by
  unfold like_Check.f
  generalize hl : (bs x).length = d
  induction d using Nat.strongRecOn generalizing x with
  | _ d ih =>
    refine Ev.at1 ?_
    simp only [like_Check.l0, bs_toList]
    by_cases e : bs x = []
    · refine Ev.pos e (Ev.done ?_)
      rw [e, pieces_nil]; rfl
    · refine Ev.neg e ?_
      cases h : next (bs x) with
      | none =>
        rw [pieces_none e h]
        refine Ev.bind (next_no rfl e h) ?_
        exact Ev.pos rfl (Ev.now _)
      | some q =>
        obtain ⟨pi, r⟩ := q
        obtain ⟨n, h1, h2, rfl, hn⟩ := next_yes rfl h
        rw [pieces_some h]
        refine Ev.bind hn ?_
        dsimp only
        have hs := bs_length x
        refine Ev.neg (by omega) ?_
        refine Ev.pos (by omega) ?_
        refine Ev.pos (by omega) ?_
        have := ih ((bs x).drop n).length (by rw [List.length_drop]; omega) (x.extract n x.size) (by rw [bs_from])
        rw [bs_from] at this
        rw [Int.toNat_natCast]
        cases hp : pieces ((bs x).drop n) <;> simp [hp] at this ⊢ <;> exact this

/-- how many any -/
def anys : List Piece → Nat
  | [] => 0
  | .any :: ps => anys ps + 1
  | _ :: ps => anys ps
theorem anys_lits {ls ps : List Piece} (hl : ∀ x ∈ ls, Piece.lit x) : anys (ls ++ ps) = anys ps := by
  induction ls with
  | nil => rfl
  | cons x ls ih =>
    have := ih (fun y hy => hl y (by simp [hy]))
    have hx := hl x (by simp)
    cases x with
    | any => simp [Piece.lit] at hx
    | one => exact this
    | ch c => exact this

open Classical in
theorem like_loop (s : ByteArray) (hsz : s.size ≤ 1000000) (L N : Nat) : ∀ (p b : ByteArray) (ps back : List Piece) (fr : Int) (at_ : Nat), pieces (bs p) = some ps → (0 ≤ fr → pieces (bs b) = some back) →
    at_ ≤ s.size → -1 ≤ fr → fr ≤ s.size → Inv ps back fr at_ → ps.length ≤ L → (0 ≤ fr → back.length ≤ L) → (s.size + 1 - fr).toNat * (L + 1) + ps.length = N →
    Ev (fun k => like_Like.l0 k s p b fr at_) (decide (goes (bs s) ps back fr at_), 0) := by
  have hs := bs_length s
  induction N using Nat.strongRecOn with
  | _ N IH =>
  intro p b ps back fr at_ hp hb hat hfr hfs hinv hL hLb hN
  have lower : ∀ (fr' : Int) (len' : Nat), len' ≤ L → fr + 1 ≤ fr' → fr' ≤ s.size → (s.size + 1 - fr').toNat * (L + 1) + len' < N := by
    intro fr' len' h1 h2 h3
    have e : (s.size + 1 - fr').toNat + 1 ≤ (s.size + 1 - fr).toNat := by omega
    have := Nat.mul_le_mul_right (L + 1) e
    rw [Nat.add_mul] at this
    omega
  have lower' : ∀ (fr' : Int) (len' : Nat), len' < ps.length → fr ≤ fr' → (s.size + 1 - fr').toNat * (L + 1) + len' < N := by
    intro fr' len' h1 h2
    have e : (s.size + 1 - fr').toNat ≤ (s.size + 1 - fr).toNat := by omega
    have := Nat.mul_le_mul_right (L + 1) e
    omega
  have miss : ∀ (c : Prop) [Decidable c], m ps ((bs s).drop at_) = false →
      Ev (fun k => if fr < 0 then some (false, 0) else if fr = (s.size : Int) then some (false, 0) else like_Like.l0 k s b b (wrap64 (fr + 1)) (wrap64 (fr + 1))) (decide (goes (bs s) ps back fr at_), 0) := by
    intro _ _ hm
    by_cases h0 : fr < 0
    · refine Ev.pos h0 (Ev.done ?_)
      have : ¬ goes (bs s) ps back fr at_ := by
        rintro (h | ⟨j, _, h, _⟩)
        · rw [hm] at h; cases h
        · omega
      simp [this]
    · refine Ev.neg h0 ?_
      by_cases h1 : fr = (s.size : Int)
      · refine Ev.pos h1 (Ev.done ?_)
        have : ¬ goes (bs s) ps back fr at_ := by
          rintro (h | ⟨j, h, _, h', _⟩)
          · rw [hm] at h; cases h
          · omega
        simp [this]
      · refine Ev.neg h1 ?_
        rw [wrap_id (by omega) (by omega)]
        obtain ⟨n, hn⟩ : ∃ n : Nat, fr + 1 = n := ⟨(fr + 1).toNat, by omega⟩
        have := IH _ (lower (fr + 1) back.length (hLb (by omega)) (by omega) (by omega)) b b back back (fr + 1) n (hb (by omega)) (fun _ => hb (by omega)) (by omega) (by omega) (by omega)
          (fun _ => ⟨by omega, [], by simp, rfl, by simp; omega⟩) (hLb (by omega)) (fun _ => hLb (by omega)) rfl
        rw [hn] at this ⊢
        refine Ev.eq this ?_
        have := goes_back (back := back) hm (by omega : 0 ≤ fr) (by omega)
        rw [hn, Int.toNat_natCast] at this
        simp [this]
  refine Ev.at1 ?_
  simp only [like_Like.l0, bs_toList]
  by_cases e : bs p = []
  · refine Ev.pos e ?_
    rw [e, pieces_nil] at hp
    obtain rfl := (Option.some.inj hp)
    by_cases h1 : (at_ : Int) = (s.size : Int)
    · refine Ev.pos h1 (Ev.done ?_)
      have : goes (bs s) [] back fr at_ := by
        left
        rw [List.drop_of_length_le (by omega)]; simp [m]
      simp [this]
    · refine Ev.neg h1 ?_
      refine miss True ?_
      have : (bs s).drop at_ ≠ [] := by
        intro h
        have := congrArg List.length h
        rw [List.length_drop] at this
        simp at this; omega
      cases hd : (bs s).drop at_ with
      | nil => exact absurd hd this
      | cons c r => simp [m]
  · refine Ev.neg e ?_
    cases h : next (bs p) with
    | none => rw [pieces_none e h] at hp; cases hp
    | some q =>
      obtain ⟨pi, r⟩ := q
      obtain ⟨n, h1, h2, rfl, hn⟩ := next_yes rfl h
      have hps := bs_length p
      rw [pieces_some h] at hp
      cases hr : pieces ((bs p).drop n) with
      | none => rw [hr] at hp; cases hp
      | some rs =>
        rw [hr] at hp
        obtain rfl := (Option.some.inj hp)
        have hrest : pieces (bs (p.extract n p.size)) = some rs := by rw [bs_from]; exact hr
        refine Ev.bind hn ?_
        dsimp only
        cases pi with
        | any =>
          refine Ev.neg (by decide) ?_
          refine Ev.at1 ?_
          simp only [like_Like.j1]
          refine Ev.pos rfl ?_
          refine Ev.pos (by omega) ?_
          refine Ev.pos (by omega) ?_
          rw [Int.toNat_natCast]
          have hle : fr ≤ at_ := by
            by_cases h0 : 0 ≤ fr
            · exact (hinv h0).1
            · omega
          simp only [List.length_cons] at hL lower'
          have := IH _ (lower' at_ rs.length (by omega) hle) (p.extract n p.size) (p.extract n p.size) rs rs at_ at_ hrest (fun _ => hrest) hat (by omega) (by omega)
            (fun _ => ⟨by omega, [], by simp, rfl, by simp⟩) (by omega) (fun _ => by omega) rfl
          refine Ev.eq this ?_
          have := goes_any (s := bs s) (by omega) hinv
          simp [this]
        | one =>
          refine Ev.neg (by decide) ?_
          refine Ev.at1 ?_
          simp only [like_Like.j1]
          refine Ev.neg (by decide) ?_
          by_cases hlt : at_ < s.size
          · refine Ev.pos (by omega) ?_
            refine Ev.neg (by decide) ?_
            refine Ev.at1 ?_
            simp only [like_Like.j2]
            refine Ev.pos (by decide) ?_
            refine Ev.pos (by omega) ?_
            refine Ev.pos (by omega) ?_
            rw [Int.toNat_natCast, wrap_id (by omega) (by omega)]
            have := IH _ (lower' fr rs.length (by simp) (by omega)) (p.extract n p.size) b rs back fr (at_ + 1) hrest hb (by omega) hfr hfs (fun h0 => by
              obtain ⟨h5, ls, hl, h6, h7⟩ := hinv h0
              exact ⟨by omega, ls ++ [.one], by intro x hx; rcases List.mem_append.1 hx with hx | hx; exact hl x hx; simp at hx; subst hx; trivial, by simp [h6], by simp; omega⟩) (by simp only [List.length_cons] at hL; omega) hLb rfl
            refine Ev.eq this ?_
            obtain ⟨c0, hd⟩ : ∃ c0, (bs s).drop at_ = c0 :: (bs s).drop (at_ + 1) := ⟨_, List.drop_eq_getElem_cons (by omega)⟩
            have : goes (bs s) (.one :: rs) back fr at_ ↔ goes (bs s) rs back fr (at_ + 1) := by
              unfold goes; rw [hd, m]
            simp [this]
          · refine Ev.neg (by omega) ?_
            refine Ev.at1 ?_
            simp only [like_Like.j2]
            refine Ev.neg (by decide) ?_
            refine miss True ?_
            rw [List.drop_of_length_le (by omega)]; simp [m]
        | ch c =>
          refine Ev.pos rfl ?_
          refine Ev.at1 ?_
          simp only [like_Like.j1]
          refine Ev.neg (by decide) ?_
          by_cases hlt : at_ < s.size
          · refine Ev.pos (by omega) ?_
            refine Ev.pos rfl ?_
            refine Ev.pos (by omega) ?_
            obtain ⟨c0, hd⟩ : ∃ c0, (bs s).drop at_ = c0 :: (bs s).drop (at_ + 1) := ⟨_, List.drop_eq_getElem_cons (by omega)⟩
            rw [bt_drop hd]
            refine Ev.at1 ?_
            simp only [like_Like.j2, pc]
            by_cases hc : c0 = c
            · refine Ev.pos (by rw [hc]; simp) ?_
              refine Ev.pos (by omega) ?_
              refine Ev.pos (by omega) ?_
              rw [Int.toNat_natCast, wrap_id (by omega) (by omega)]
              have := IH _ (lower' fr rs.length (by simp) (by omega)) (p.extract n p.size) b rs back fr (at_ + 1) hrest hb (by omega) hfr hfs (fun h0 => by
                obtain ⟨h5, ls, hl, h6, h7⟩ := hinv h0
                exact ⟨by omega, ls ++ [.ch c], by intro x hx; rcases List.mem_append.1 hx with hx | hx; exact hl x hx; simp at hx; subst hx; trivial, by simp [h6], by simp; omega⟩) (by simp only [List.length_cons] at hL; omega) hLb rfl
              refine Ev.eq this ?_
              have : goes (bs s) (.ch c :: rs) back fr at_ ↔ goes (bs s) rs back fr (at_ + 1) := by
                unfold goes; rw [hd, m]; simp [hc]
              simp [this]
            · have hne : ¬ ((c0.toNat : Int)) = (c.toNat : Int) := fun h' => hc (byte_inj (by omega))
              refine Ev.neg (by simpa using hne) ?_
              refine miss True ?_
              rw [hd, m]; simp [hc]
          · refine Ev.neg (by omega) ?_
            refine Ev.at1 ?_
            simp only [like_Like.j2]
            refine Ev.neg (by decide) ?_
            refine miss True ?_
            rw [List.drop_of_length_le (by omega)]; simp [m]

theorem like_yes (s p : ByteArray) {ps : List Piece} (hp : pieces (bs p) = some ps) (hsz : s.size ≤ 1000000) : Ev (fun k => like_Like.f k s p) (m ps (bs s), 0) := by
  unfold like_Like.f
  have hc := check_ev p
  rw [hp] at hc
  refine Ev.bind hc ?_
  refine Ev.pos rfl ?_
  have := like_loop s hsz ps.length _ p ⟨#[]⟩ ps [] (-1) 0 hp (fun h => by omega) (by omega) (by omega) (by omega) (fun h => by omega) (Nat.le_refl _) (fun h => by omega) rfl
  refine Ev.eq this ?_
  have : goes (bs s) ps [] (-1) 0 ↔ m ps (bs s) = true := by
    unfold goes
    constructor
    · rintro (h | ⟨j, _, h, _⟩)
      · simpa using h
      · omega
    · intro h; left; simpa using h
  simp only [this]
  cases m ps (bs s) <;> simp
theorem like_no (s p : ByteArray) (hp : pieces (bs p) = none) : Ev (fun k => like_Like.f k s p) (false, 40) := by
  unfold like_Like.f
  have hc := check_ev p
  rw [hp] at hc
  refine Ev.bind hc ?_
  exact Ev.neg (by decide) (Ev.now _)
end Go.Proofs.Ytlmfaidocdlpeaa.Lk
