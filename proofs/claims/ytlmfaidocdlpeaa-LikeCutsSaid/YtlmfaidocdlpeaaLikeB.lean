/- The document's pieces, Like, Prefix, Check, and the program's Prefix come to the plain law's words. -/
import Derived.Test.YtlmfaidocdlpeaaLikeA
set_option linter.unusedVariables false
set_option linter.unusedSimpArgs false
namespace Go.Proofs.Ytlmfaidocdlpeaa.Lk
open Go.RowKit Go.Proofs.YtlmfaidocdlpeaaW.PrintWords Go.Proofs.Ytlmfaidocdlpeaa.Pu Go.Proofs.Ytlmfaidocdlpeaa.QLK

def toS : Piece → S40
  | .any => ⟨true, false, 0⟩
  | .one => ⟨false, true, 0⟩
  | .ch c => ⟨false, false, c.toNat⟩
def res (acc : List S40) : Option (List Piece) → List S40 × Bool
  | some ps => (acc ++ ps.map toS, true)
  | none => ([], false)
theorem res_map (acc : List S40) (x : Piece) (o : Option (List Piece)) : res acc (o.map (x :: ·)) = res (acc ++ [toS x]) o := by
  cases o <;> simp [res]

theorem ref_pieces_loop (x : ByteArray) (hsz : x.size ≤ 1000000) (d : Nat) : ∀ (rest : List UInt8), rest.length = d → ∀ (i : Nat) (acc : List S40), (bs x).drop i = rest → acc.length ≤ i → i ≤ x.size →
    Ev (fun k => boscageref04_pieces.l0 k x acc (i : Int)) (res acc (pieces rest)) := by
  have hs := bs_length x
  induction d using Nat.strongRecOn with
  | _ d ih =>
    intro rest hd i acc hr ha hi
    refine Ev.at1 ?_
    simp only [boscageref04_pieces.l0]
    match rest, hd, hr with
    | [], hd, hr =>
      have := drop_len hr (by omega)
      simp only [List.length_nil] at this
      refine Ev.neg (by omega) (Ev.done ?_)
      simp [pieces_nil, res]
    | c :: p, hd, hr =>
      have hlt := drop_lt hr
      have hn := drop_next hr
      have hb := bt_drop hr
      simp only [List.length_cons] at hd
      refine Ev.pos (by omega) ?_
      refine Ev.pos (by omega) ?_
      rw [hb, wrap_id (by omega) (by omega)]
      by_cases c37 : c.toNat = 37
      · refine Ev.pos (by omega) ?_
        refine Ev.pos (by omega) ?_
        have e : next (c :: p) = some (.any, p) := by rw [next, if_neg (by omega), if_pos c37]
        rw [pieces_some e, res_map]
        exact ih p.length (by omega) p rfl (i + 1) _ hn (by simp; omega) (by omega)
      · refine Ev.neg (by omega) ?_
        by_cases c95 : c.toNat = 95
        · refine Ev.pos (by omega) ?_
          refine Ev.pos (by omega) ?_
          have e : next (c :: p) = some (.one, p) := by rw [next, if_neg (by omega), if_neg c37, if_pos c95]
          rw [pieces_some e, res_map]
          exact ih p.length (by omega) p rfl (i + 1) _ hn (by simp; omega) (by omega)
        · refine Ev.neg (by omega) ?_
          by_cases c92 : c.toNat = 92
          · refine Ev.pos (by omega) ?_
            match p, hd, hr, hn with
            | [], hd, hr, hn =>
              have := drop_len hn (by omega)
              simp only [List.length_nil] at this
              have e : next [c] = none := by rw [next, if_pos c92]; rfl
              rw [pieces_none (by simp) e]
              exact Ev.pos (by omega) (Ev.now _)
            | e :: q, hd, hr, hn =>
              have hlt2 := drop_lt hn
              have hn2 := drop_next hn
              have hb2 : bt x ((i : Int) + 1) = (e.toNat : Int) := bt_drop hn
              simp only [List.length_cons] at hd
              refine Ev.neg (by omega) ?_
              refine Ev.pos (by omega) ?_
              refine Ev.pos (by omega) ?_
              rw [hb2, wrap_id (by omega) (by omega)]
              have hne : (i : Int) + 1 + 1 = ((i + 1 + 1 : Nat) : Int) := by omega
              by_cases h : e.toNat = 37 ∨ e.toNat = 95 ∨ e.toNat = 92
              · have en : next (c :: e :: q) = some (.ch e, q) := by rw [next, if_pos c92, esc, if_pos h]
                rw [pieces_some en, res_map, hne]
                have IH := ih q.length (by omega) q rfl (i + 1 + 1) (acc ++ [toS (.ch e)]) hn2 (by simp; omega) (by omega)
                by_cases e37 : e.toNat = 37
                · refine Ev.pos (by omega) ?_
                  exact Ev.pos (by omega) IH
                · refine Ev.neg (by omega) ?_
                  by_cases e95 : e.toNat = 95
                  · refine Ev.pos (by omega) ?_
                    exact Ev.pos (by omega) IH
                  · refine Ev.neg (by omega) ?_
                    refine Ev.pos (by omega) ?_
                    exact Ev.pos (by omega) IH
              · have en : next (c :: e :: q) = none := by rw [next, if_pos c92, esc, if_neg h]
                rw [pieces_none (by simp) en]
                refine Ev.neg (by omega) ?_
                refine Ev.neg (by omega) ?_
                exact Ev.neg (by omega) (Ev.now _)
          · refine Ev.neg (by omega) ?_
            refine Ev.pos (by omega) ?_
            have e : next (c :: p) = some (.ch c, p) := by rw [next, if_neg c92, if_neg c37, if_neg c95]
            rw [pieces_some e, res_map]
            exact ih p.length (by omega) p rfl (i + 1) _ hn (by simp; omega) (by omega)

theorem ref_pieces (x : ByteArray) (hsz : x.size ≤ 1000000) : Ev (fun k => boscageref04_pieces.f k x) (res [] (pieces (bs x))) := by
  unfold boscageref04_pieces.f
  exact ref_pieces_loop x hsz _ (bs x) rfl 0 [] (by simp) (by simp) (by omega)

theorem ref_check (x : ByteArray) (hsz : x.size ≤ 1000000) : Ev (fun k => boscageref04_Check.f k x) (if (pieces (bs x)).isSome then 0 else 40) := by
  unfold boscageref04_Check.f
  refine Ev.bind (ref_pieces x hsz) ?_
  cases pieces (bs x) with
  | none => exact Ev.neg (by simp [res]) (Ev.now _)
  | some ps => exact Ev.pos (by simp [res]) (Ev.now _)

/-- what a text that is like the pieces begins with, and whether it is that -/
def pre : List Piece → List UInt8 × Bool
  | [] => ([], true)
  | .ch c :: ps => (c :: (pre ps).1, (pre ps).2)
  | _ :: _ => ([], false)

theorem prefix_loop (d : Nat) : ∀ (x : ByteArray) (acc : List UInt8) (ps : List Piece), (bs x).length = d → pieces (bs x) = some ps → acc.length + d ≤ 1000000 →
    Ev (fun k => like_Prefix.l0 k x acc) (⟨(acc ++ (pre ps).1).toArray⟩, (pre ps).2) := by
  induction d using Nat.strongRecOn with
  | _ d ih =>
    intro x acc ps hd hp ha
    have hs := bs_length x
    refine Ev.at1 ?_
    simp only [like_Prefix.l0, bs_toList]
    by_cases e : bs x = []
    · refine Ev.pos e (Ev.done ?_)
      rw [e, pieces_nil] at hp
      obtain rfl := Option.some.inj hp
      simp [pre]
    · refine Ev.neg e ?_
      cases h : next (bs x) with
      | none => rw [pieces_none e h] at hp; cases hp
      | some q =>
        obtain ⟨pi, r⟩ := q
        obtain ⟨n, h1, h2, rfl, hn⟩ := next_yes rfl h
        rw [pieces_some h] at hp
        cases hr : pieces ((bs x).drop n) with
        | none => rw [hr] at hp; cases hp
        | some rs =>
          rw [hr] at hp
          obtain rfl := (Option.some.inj hp)
          refine Ev.bind hn ?_
          dsimp only
          cases pi with
          | any => exact Ev.neg (by decide) (Ev.done (by simp [pre]))
          | one => exact Ev.neg (by decide) (Ev.done (by simp [pre]))
          | ch c =>
            have hc := byte_lt c
            refine Ev.pos rfl ?_
            refine Ev.pos (by omega) ?_
            refine Ev.pos (by omega) ?_
            refine Ev.pos (by simp [pc]) ?_
            refine Ev.pos (by omega) ?_
            rw [Int.toNat_natCast]
            have := ih ((bs x).drop n).length (by rw [List.length_drop]; omega) (x.extract n x.size) (acc ++ [(pc (.ch c)).toNat.toUInt8]) rs (by rw [bs_from]) (by rw [bs_from]; exact hr) (by rw [List.length_drop]; simp; omega)
            refine Ev.eq this ?_
            simp [pre, pc]
theorem prefix_yes (x : ByteArray) {ps : List Piece} (hp : pieces (bs x) = some ps) (hsz : x.size ≤ 1000000) : Ev (fun k => like_Prefix.f k x) (⟨(pre ps).1.toArray⟩, (pre ps).2) := by
  have hs := bs_length x
  unfold like_Prefix.f
  have hc := check_ev x
  rw [hp] at hc
  refine Ev.bind hc ?_
  refine Ev.pos rfl ?_
  exact prefix_loop _ x [] ps rfl hp (by simp; omega)
theorem prefix_no (x : ByteArray) (hp : pieces (bs x) = none) : Ev (fun k => like_Prefix.f k x) (⟨#[]⟩, false) := by
  unfold like_Prefix.f
  have hc := check_ev x
  rw [hp] at hc
  refine Ev.bind hc ?_
  exact Ev.neg (by decide) (Ev.now _)

theorem rd_toS (ps : List Piece) (i : Nat) (x : Piece) (r : List Piece) (h : ps.drop i = x :: r) : rd_T40 (ps.map toS) (i : Int) = toS x := by
  have hl := drop_lt h
  unfold rd_T40
  rw [Int.toNat_natCast, List.getD_eq_getElem?_getD, List.getElem?_map]
  rw [List.drop_eq_getElem_cons hl] at h
  injection h with h1 _
  rw [List.getElem?_eq_getElem hl, h1]; rfl

theorem one_bs (c : UInt8) : bs (strOfNums [(c.toNat : Int)]) = [c] := by
  simp [strOfNums, bs]

theorem ref_prefix_loop (all : List Piece) (hall : all.length ≤ 1000000) (rest : List Piece) : ∀ (i : Nat) (acc : ByteArray), all.drop i = rest → i ≤ all.length → acc.size ≤ i →
    Ev (fun k => boscageref04_Prefix.l0 k acc (all.map toS) ((all.map toS).length : Int) (i : Int)) (⟨(bs acc ++ (pre rest).1).toArray⟩, (pre rest).2) := by
  induction rest with
  | nil =>
    intro i acc hr hi ha
    have := drop_len hr hi
    simp only [List.length_nil] at this
    refine Ev.at1 ?_
    simp only [boscageref04_Prefix.l0, List.length_map]
    refine Ev.neg (by omega) (Ev.done ?_)
    simp [pre, mk_bs]
  | cons x r ih =>
    intro i acc hr hi ha
    have hl := drop_lt hr
    refine Ev.at1 ?_
    simp only [boscageref04_Prefix.l0, List.length_map]
    refine Ev.pos (by omega) ?_
    refine Ev.pos (by omega) ?_
    refine Ev.pos (by omega) ?_
    rw [rd_toS all i x r hr]
    cases x with
    | any => exact Ev.pos rfl (Ev.done (by simp [pre, mk_bs]))
    | one => exact Ev.neg (by decide) (Ev.pos rfl (Ev.done (by simp [pre, mk_bs])))
    | ch c =>
      refine Ev.neg (by simp [toS]) ?_
      refine Ev.neg (by simp [toS]) ?_
      refine Ev.given ?_
      have hb : bs (strOfNums [(toS (.ch c)).f2]) = [c] := one_bs c
      have hz : (strOfNums [(toS (.ch c)).f2]).size = 1 := by rw [← bs_length, hb]; rfl
      refine Ev.pos (by omega) ?_
      rw [wrap_id (by omega) (by omega)]
      have := ih (i + 1) (acc ++ strOfNums [(toS (.ch c)).f2]) (drop_next hr) (by omega) (by rw [ByteArray.size_append]; omega)
      rw [List.length_map] at this
      refine Ev.eq this ?_
      simp [pre, bs_append, hb]
theorem pieces_length (d : Nat) : ∀ (l : List UInt8) (ps : List Piece), l.length = d → pieces l = some ps → ps.length ≤ l.length := by
  induction d using Nat.strongRecOn with
  | _ d ih =>
    intro l ps hd hp
    by_cases e : l = []
    · subst e; rw [pieces_nil] at hp; obtain rfl := Option.some.inj hp; simp
    · cases h : next l with
      | none => rw [pieces_none e h] at hp; cases hp
      | some q =>
        obtain ⟨pi, r⟩ := q
        obtain ⟨n, h1, h2, h3, rfl⟩ := next_shorter h
        rw [pieces_some h] at hp
        cases hr : pieces (l.drop n) with
        | none => rw [hr] at hp; cases hp
        | some rs =>
          rw [hr] at hp
          obtain rfl := (Option.some.inj hp)
          have := ih (l.drop n).length (by rw [List.length_drop]; omega) (l.drop n) rs rfl hr
          rw [List.length_drop] at this
          simp; omega
theorem ref_prefix_yes (x : ByteArray) {ps : List Piece} (hp : pieces (bs x) = some ps) (hsz : x.size ≤ 1000000) : Ev (fun k => boscageref04_Prefix.f k x) (⟨(pre ps).1.toArray⟩, (pre ps).2) := by
  have hs := bs_length x
  have hl := pieces_length _ _ _ rfl hp
  unfold boscageref04_Prefix.f
  have hc := ref_pieces x hsz
  rw [hp] at hc
  refine Ev.bind hc ?_
  refine Ev.pos rfl ?_
  have := ref_prefix_loop ps (by omega) ps 0 ⟨#[]⟩ (by simp) (by omega) (Nat.le_refl _)
  simp only [bs_nil, List.nil_append] at this
  exact this
theorem ref_prefix_no (x : ByteArray) (hp : pieces (bs x) = none) (hsz : x.size ≤ 1000000) : Ev (fun k => boscageref04_Prefix.f k x) (⟨#[]⟩, false) := by
  unfold boscageref04_Prefix.f
  have hc := ref_pieces x hsz
  rw [hp] at hc
  refine Ev.bind hc ?_
  exact Ev.neg (by decide) (Ev.now _)

/-! the document's Like: the places to which the pieces so far may lead -/
theorem m_end_any (qs : List Piece) (t : List UInt8) : m (qs ++ [.any]) t = true ↔ ∃ j, j ≤ t.length ∧ m qs (t.take j) = true := by
  rw [m_append]
  constructor
  · rintro ⟨i, hi, h, _⟩; exact ⟨i, hi, h⟩
  · rintro ⟨i, hi, h⟩
    refine ⟨i, hi, h, ?_⟩
    rw [m_any]
    exact ⟨(t.drop i).length, Nat.le_refl _, by rw [List.drop_of_length_le (Nat.le_refl _)]; simp [m]⟩
theorem m_one (x : Piece) (hx : x.lit) (t : List UInt8) (h : m [x] t = true) : ∃ c, t = [c] := by
  have := m_lits (ls := [x]) (ps := []) (by intro y hy; simp at hy; subst hy; exact hx) (s := t) (by simpa using h)
  simp [m] at this
  match t, this with
  | [c], _ => exact ⟨c, rfl⟩
  | [], h => simp at h
  | a :: b :: r, h => simp at h
theorem m_end_nil (qs : List Piece) (x : Piece) (hx : x.lit) : m (qs ++ [x]) [] = false := by
  apply Bool.eq_false_iff.2
  intro h
  rw [m_append] at h
  obtain ⟨i, hi, _, h⟩ := h
  obtain ⟨c, hc⟩ := m_one x hx _ h
  simp at hc
theorem m_end_lit (qs : List Piece) (x : Piece) (hx : x.lit) (t : List UInt8) (c : UInt8) : m (qs ++ [x]) (t ++ [c]) = (m qs t && m [x] [c]) := by
  apply Bool.eq_iff_iff.2
  rw [m_append, Bool.and_eq_true]
  constructor
  · rintro ⟨i, hi, h1, h2⟩
    obtain ⟨d, hd⟩ := m_one x hx _ h2
    have hl := congrArg List.length hd
    rw [List.length_drop, List.length_append] at hl
    simp only [List.length_cons, List.length_nil] at hl
    have : i = t.length := by omega
    subst this
    rw [List.take_left] at h1
    rw [List.drop_left] at h2
    exact ⟨h1, h2⟩
  · rintro ⟨h1, h2⟩
    exact ⟨t.length, by simp, by rw [List.take_left]; exact h1, by rw [List.drop_left]; exact h2⟩

/-- the row of places, as far as it is filled -/
def R (s : List UInt8) (qs : List Piece) (n i : Nat) : List Bool := (List.range n).map fun j => decide (j < i) && m qs (s.take j)
theorem R_length (s : List UInt8) (qs : List Piece) (n i : Nat) : (R s qs n i).length = n := by simp [R]
theorem R_rd (s : List UInt8) (qs : List Piece) (n i j : Nat) (hj : j < n) (hi : j < i) : rdOf false (R s qs n i) (j : Int) = m qs (s.take j) := by
  simp [rdOf, R, List.getD_eq_getElem?_getD, List.getElem?_map, List.getElem?_range, hj, hi]
theorem R_set (s : List UInt8) (qs : List Piece) (n i : Nat) (hi : i < n) (v : Bool) (hv : v = m qs (s.take i)) : (R s qs n i).set i v = R s qs n (i + 1) := by
  apply List.ext_getElem
  · simp [R]
  · intro j h1 h2
    rw [List.getElem_set]
    simp only [R, List.getElem_map, List.getElem_range]
    by_cases e : i = j
    · subst e; simp [hv]
    · rw [if_neg e]
      have : (j < i) = (j < i + 1) := by apply propext; omega
      simp [this]
theorem R_skip (s : List UInt8) (qs : List Piece) (n i : Nat) (hv : m qs (s.take i) = false) : R s qs n i = R s qs n (i + 1) := by
  apply List.ext_getElem
  · simp [R]
  · intro j h1 h2
    simp only [R, List.getElem_map, List.getElem_range]
    by_cases e : i = j
    · subst e; simp [hv]
    · have : (j < i) = (j < i + 1) := by apply propext; omega
      simp [this]
theorem R_zero (s : List UInt8) (qs : List Piece) (n : Nat) : R s qs n 0 = List.replicate n false := by
  apply List.ext_getElem
  · simp [R]
  · intro j h1 h2
    simp [R]
theorem R_start (s : List UInt8) (n : Nat) (hn : n = s.length + 1) : (List.replicate n false).set 0 true = R s [] n n := by
  apply List.ext_getElem
  · simp [R]
  · intro j h1 h2
    simp only [R_length] at h2
    rw [List.getElem_set]
    simp only [R, List.getElem_map, List.getElem_range, List.getElem_replicate, h2, m]
    by_cases e : 0 = j
    · subst e; simp
    · rw [if_neg e]
      have : (s.take j).isEmpty = false := by
        apply Bool.eq_false_iff.2
        intro h
        have := congrArg List.length (List.isEmpty_iff.1 h)
        rw [List.length_take, List.length_nil] at this
        omega
      simp [this]

theorem ref_like_inner (s : ByteArray) (hsz : s.size ≤ 1000000) (all qs : List Piece) (x : Piece) (X : Int) (r : Bool × Int)
    (hout : Ev (fun k => boscageref04_Like.l0 k s (R (bs s) (qs ++ [x]) (s.size + 1) (s.size + 1)) (all.map toS) ((all.map toS).length : Int) (wrap64 (X + 1))) r) (d : Nat) : ∀ (i : Nat), i ≤ s.size + 1 → s.size + 1 - i = d →
    Ev (fun k => boscageref04_Like.l1 k s (R (bs s) qs (s.size + 1) (s.size + 1)) (R (bs s) (qs ++ [x]) (s.size + 1) i) (all.map toS) ((all.map toS).length : Int) X ((s.size + 1 : Nat) : Int) (i : Int) (toS x).f0 (toS x).f1 (toS x).f2) r := by
  have hs := bs_length s
  induction d with
  | zero =>
    intro i hi hd
    obtain rfl : i = s.size + 1 := by omega
    refine Ev.at1 ?_
    simp only [boscageref04_Like.l1]
    exact Ev.neg (by omega) hout
  | succ d ih =>
    intro i hi hd
    have IH := ih (i + 1) (by omega) (by omega)
    refine Ev.at1 ?_
    simp only [boscageref04_Like.l1, R_length]
    refine Ev.pos (by omega) ?_
    have hw : wrap64 ((i : Int) + 1) = ((i + 1 : Nat) : Int) := by rw [wrap_id (by omega) (by omega)]; rfl
    rw [hw]
    have hrd : rdOf false (R (bs s) qs (s.size + 1) (s.size + 1)) (i : Int) = m qs ((bs s).take i) := R_rd _ _ _ _ _ (by omega) (by omega)
    have hset : ∀ v, v = m (qs ++ [x]) ((bs s).take i) → (R (bs s) (qs ++ [x]) (s.size + 1) i).set (i : Int).toNat v = R (bs s) (qs ++ [x]) (s.size + 1) (i + 1) := by
      intro v hv; rw [Int.toNat_natCast]; exact R_set _ _ _ _ (by omega) v hv
    have htake : ∀ j : Nat, i = j + 1 → ∃ c, (bs s).take i = (bs s).take j ++ [c] ∧ bt s (j : Int) = (c.toNat : Int) := by
      intro j hj
      subst hj
      have hj : j < (bs s).length := by omega
      exact ⟨(bs s)[j], List.take_succ_eq_append_getElem hj, bt_get s j hj⟩
    cases x with
    | any =>
      refine Ev.pos rfl ?_
      refine Ev.pos (by omega) ?_
      refine Ev.pos (by omega) ?_
      rw [hrd]
      by_cases hm : m qs ((bs s).take i) = true
      · refine Ev.pos hm ?_
        refine Ev.pos (by omega) ?_
        rw [hset true (by
          symm; rw [m_end_any]
          exact ⟨((bs s).take i).length, Nat.le_refl _, by rw [List.take_length]; exact hm⟩)]
        exact IH
      · refine Ev.neg hm ?_
        by_cases h0 : i = 0
        · subst h0
          refine Ev.neg (by omega) ?_
          refine Ev.pos (by omega) ?_
          rw [hset false (by
            symm; apply Bool.eq_false_iff.2; intro h
            rw [m_end_any] at h
            obtain ⟨j, hj, h⟩ := h
            simp only [List.take_zero, List.length_nil, Nat.le_zero_eq] at hj h hm
            subst hj
            exact hm h)]
          exact IH
        · obtain ⟨j, rfl⟩ : ∃ j, i = j + 1 := ⟨i - 1, by omega⟩
          have hw1 : wrap64 (((j + 1 : Nat) : Int) - 1) = (j : Int) := by rw [wrap_id (by omega) (by omega)]; omega
          refine Ev.pos (by omega) ?_
          rw [hw1]
          refine Ev.pos (by omega) ?_
          refine Ev.pos (by omega) ?_
          refine Ev.pos (by omega) ?_
          rw [R_rd _ _ _ _ _ (by omega) (by omega)]
          rw [hset _ (by
            apply Bool.eq_iff_iff.2
            rw [m_end_any, m_end_any]
            obtain ⟨c, hc, _⟩ := htake j rfl
            have hl : ((bs s).take j).length = j := by rw [List.length_take]; omega
            have hl2 : ((bs s).take (j + 1)).length = j + 1 := by rw [List.length_take]; omega
            rw [hl, hl2]
            constructor
            · rintro ⟨a, ha, h⟩
              refine ⟨a, by omega, ?_⟩
              rw [List.take_take] at h ⊢
              rwa [show min a (j + 1) = min a j by omega]
            · rintro ⟨a, ha, h⟩
              by_cases e : a = j + 1
              · subst e
                rw [List.take_take, Nat.min_self] at h
                exact absurd h hm
              · refine ⟨a, by omega, ?_⟩
                rw [List.take_take] at h ⊢
                rwa [show min a j = min a (j + 1) by omega])]
          exact IH
    | one =>
      have hlit := m_end_lit qs .one trivial
      refine Ev.neg (by simp [toS]) ?_
      by_cases h0 : i = 0
      · subst h0
        refine Ev.neg (by omega) ?_
        rw [R_skip (bs s) (qs ++ [Piece.one]) (s.size + 1) 0 (by rw [List.take_zero]; exact m_end_nil qs .one trivial)]
        exact IH
      · obtain ⟨j, rfl⟩ : ∃ j, i = j + 1 := ⟨i - 1, by omega⟩
        have hw1 : wrap64 (((j + 1 : Nat) : Int) - 1) = (j : Int) := by rw [wrap_id (by omega) (by omega)]; omega
        obtain ⟨c, hc, hbt⟩ := htake j rfl
        refine Ev.pos (by omega) ?_
        rw [hw1]
        refine Ev.pos (by omega) ?_
        refine Ev.pos (by omega) ?_
        rw [R_rd _ _ _ _ _ (by omega) (by omega)]
        by_cases hm : m qs ((bs s).take j) = true
        · refine Ev.pos hm ?_
          refine Ev.pos rfl ?_
          refine Ev.pos (by omega) ?_
          refine Ev.pos (by omega) ?_
          rw [hset true (by rw [hc, hlit, hm]; simp [m])]
          exact IH
        · refine Ev.neg hm ?_
          refine Ev.pos (by omega) ?_
          refine Ev.pos (by omega) ?_
          rw [hset false (by rw [hc, hlit]; simp [hm])]
          exact IH
    | ch d =>
      have hlit := m_end_lit qs (.ch d) trivial
      refine Ev.neg (by simp [toS]) ?_
      by_cases h0 : i = 0
      · subst h0
        refine Ev.neg (by omega) ?_
        rw [R_skip (bs s) (qs ++ [Piece.ch d]) (s.size + 1) 0 (by rw [List.take_zero]; exact m_end_nil qs (.ch d) trivial)]
        exact IH
      · obtain ⟨j, rfl⟩ : ∃ j, i = j + 1 := ⟨i - 1, by omega⟩
        have hw1 : wrap64 (((j + 1 : Nat) : Int) - 1) = (j : Int) := by rw [wrap_id (by omega) (by omega)]; omega
        obtain ⟨c, hc, hbt⟩ := htake j rfl
        refine Ev.pos (by omega) ?_
        rw [hw1]
        refine Ev.pos (by omega) ?_
        refine Ev.pos (by omega) ?_
        rw [R_rd _ _ _ _ _ (by omega) (by omega)]
        by_cases hm : m qs ((bs s).take j) = true
        · refine Ev.pos hm ?_
          refine Ev.neg (by simp [toS]) ?_
          refine Ev.pos (by omega) ?_
          refine Ev.pos (by omega) ?_
          refine Ev.pos (by omega) ?_
          rw [hbt]
          rw [hset _ (by
            rw [hc, hlit, hm]
            simp only [toS, m, Bool.true_and, List.isEmpty_nil, Bool.and_true]
            apply Bool.eq_iff_iff.2
            simp only [beq_iff_eq, decide_eq_true_eq]
            constructor
            · intro h; exact byte_inj (by omega)
            · intro h; rw [h])]
          exact IH
        · refine Ev.neg hm ?_
          refine Ev.pos (by omega) ?_
          refine Ev.pos (by omega) ?_
          rw [hset false (by rw [hc, hlit]; simp [hm])]
          exact IH

theorem ref_like_loop (s : ByteArray) (hsz : s.size ≤ 1000000) (all : List Piece) (hall : all.length ≤ 1000000) (rest : List Piece) : ∀ (i : Nat), all.drop i = rest → i ≤ all.length →
    Ev (fun k => boscageref04_Like.l0 k s (R (bs s) (all.take i) (s.size + 1) (s.size + 1)) (all.map toS) ((all.map toS).length : Int) (i : Int)) (m all (bs s), 0) := by
  have hs := bs_length s
  induction rest with
  | nil =>
    intro i hr hi
    have := drop_len hr hi
    simp only [List.length_nil] at this
    refine Ev.at1 ?_
    simp only [boscageref04_Like.l0, R_length, List.length_map]
    refine Ev.neg (by omega) ?_
    refine Ev.pos (by omega) ?_
    refine Ev.pos (by omega) (Ev.done ?_)
    rw [R_rd _ _ _ _ _ (by omega) (by omega), List.take_of_length_le (by omega), List.take_of_length_le (by omega)]
  | cons x r ih =>
    intro i hr hi
    have hl := drop_lt hr
    refine Ev.at1 ?_
    simp only [boscageref04_Like.l0]
    have hn : (wrap64 ((s.size : Int) + 1)).toNat = s.size + 1 := by rw [wrap_id (by omega) (by omega)]; omega
    rw [hn]
    refine Ev.pos (by rw [List.length_map]; omega) ?_
    refine Ev.pos (by omega) ?_
    refine Ev.pos (by rw [List.length_map]; omega) ?_
    refine Ev.pos (by rw [wrap_id (by omega) (by omega)]; omega) ?_
    refine Ev.pos (by omega) ?_
    refine Ev.given ?_
    rw [rd_toS all i x r hr, List.length_replicate, ← R_zero (bs s) (all.take i ++ [x])]
    refine ref_like_inner s hsz all (all.take i) x (i : Int) _ ?_ (s.size + 1) 0 (by omega) (by omega)
    have := ih (i + 1) (drop_next hr) (by omega)
    rw [take_next hr] at this
    rw [wrap_id (by omega) (by omega)]
    exact this

theorem ref_like_yes (s p : ByteArray) {ps : List Piece} (hp : pieces (bs p) = some ps) (hsz : s.size ≤ 1000000) (hpz : p.size ≤ 1000000) : Ev (fun k => boscageref04_Like.f k s p) (m ps (bs s), 0) := by
  have hs := bs_length p
  have hs2 := bs_length s
  have hl := pieces_length _ _ _ rfl hp
  unfold boscageref04_Like.f
  have hc := ref_pieces p hpz
  rw [hp] at hc
  refine Ev.bind hc ?_
  refine Ev.pos rfl ?_
  have hn : (wrap64 ((s.size : Int) + 1)).toNat = s.size + 1 := by rw [wrap_id (by omega) (by omega)]; omega
  rw [hn]
  refine Ev.pos (by rw [wrap_id (by omega) (by omega)]; omega) ?_
  refine Ev.pos (by omega) ?_
  refine Ev.given ?_
  refine Ev.pos (by rw [List.length_replicate]; omega) ?_
  have := ref_like_loop s hsz ps (by omega) ps 0 (by simp) (by omega)
  rw [List.take_zero, ← R_start (bs s) (s.size + 1) (by omega)] at this
  simpa [res] using this
theorem ref_like_no (s p : ByteArray) (hp : pieces (bs p) = none) (hpz : p.size ≤ 1000000) : Ev (fun k => boscageref04_Like.f k s p) (false, 40) := by
  unfold boscageref04_Like.f
  have hc := ref_pieces p hpz
  rw [hp] at hc
  refine Ev.bind hc ?_
  exact Ev.neg (by decide) (Ev.now _)
end Go.Proofs.Ytlmfaidocdlpeaa.Lk
