/- What slices.SortStableFunc's merge comes to (plain; over the kit's theory of sorting). -/
import Derived.Sort.Lot0
import Derived.Sort.LotA
set_option linter.unusedVariables false
set_option linter.unusedSimpArgs false
namespace Go.Proofs.YtaneicpggglcbaaDoor.So
open Go.Sort
variable {α : Type} [Inhabited α]
/-- where an element comes from when [s, m) and [m, e) change places -/
def rotAt (s m e k : Nat) : Nat := if s ≤ k ∧ k < s + (e - m) then m + (k - s) else if s + (e - m) ≤ k ∧ k < e then s + (k - (s + (e - m))) else k
theorem rotAt_same {s m e : Nat} (h1 : s ≤ m) (h2 : m ≤ e) (h : s = m ∨ e = m) (k : Nat) : rotAt s m e k = k := by
  unfold rotAt
  split
  · omega
  · split <;> omega
/-- n places from a on and from b on change places -/
def swapRange (d : Array α) (a b : Nat) : Nat → Array α
  | 0 => d
  | n + 1 => swp (swapRange d a b n) (a + n) (b + n)
theorem swapRange_size (d : Array α) (a b : Nat) : ∀ n, (swapRange d a b n).size = d.size
  | 0 => rfl
  | n + 1 => by rw [swapRange, size_swp, swapRange_size d a b n]
theorem swapRange_perm (d : Array α) (lo hi a b : Nat) (h1 : lo ≤ a) (h2 : a ≤ b) (h4 : hi ≤ d.size) : ∀ n, b + n ≤ hi → PermIn lo hi d (swapRange d a b n)
  | 0, _ => permIn_refl _ _ _
  | n + 1, h => by
    have ih := swapRange_perm d lo hi a b h1 h2 h4 n (by omega)
    exact permIn_trans _ _ _ _ _ ih (swp_permIn _ _ _ _ _ (by omega) (by omega) (by omega) (by omega) (by rw [swapRange_size]; exact h4))
/-- where an element comes from when n places from a and from b on change places -/
def swIdx (a b n k : Nat) : Nat := if a ≤ k ∧ k < a + n then b + (k - a) else if b ≤ k ∧ k < b + n then a + (k - b) else k
theorem swapRange_get (d : Array α) (a b : Nat) : ∀ n, a + n ≤ b → b + n ≤ d.size → ∀ k, (swapRange d a b n)[k]! = d[swIdx a b n k]!
  | 0, _, _, k => by
    rw [swapRange]
    congr 1
    unfold swIdx
    rw [if_neg (by omega), if_neg (by omega)]
  | n + 1, h1, h2, k => by
    have ih := swapRange_get d a b n (by omega) (by omega)
    have hs := swapRange_size d a b n
    rw [swapRange]
    by_cases ka : k = a + n
    · subst ka
      rw [swp_left _ _ _ (by omega) (by omega), ih]
      congr 1
      unfold swIdx
      repeat' split
      all_goals omega
    · by_cases kb : k = b + n
      · subst kb
        rw [swp_right _ _ _ (by omega), ih]
        congr 1
        unfold swIdx
        repeat' split
        all_goals omega
      · rw [swp_other _ _ _ _ ka kb, ih]
        congr 1
        unfold swIdx
        repeat' split
        all_goals omega
/-- slices.rotateCmpFunc from i, j on (f: rounds enough) -/
def rotLoop (m : Nat) : Nat → Nat → Nat → Array α → Array α
  | 0, i, j, d => swapRange d (m - i) m i
  | f + 1, i, j, d => if i = j then swapRange d (m - i) m i else if j < i then rotLoop m f (i - j) j (swapRange d (m - i) m j) else rotLoop m f i (j - i) (swapRange d (m - i) (m + j - i) i)
theorem rotLoop_perm (m lo hi : Nat) : ∀ (f i j : Nat) (d : Array α), i + j ≤ f + 1 → i ≤ m → lo ≤ m - i → m + j ≤ hi → hi ≤ d.size → (0 < i ∧ 0 < j) → PermIn lo hi d (rotLoop m f i j d)
  | 0, i, j, d, h, _, _, _, _, _ => by omega
  | f + 1, i, j, d, h, h1, h2, h3, h4, h5 => by
    rw [rotLoop]
    split
    · exact swapRange_perm d lo hi _ _ h2 (by omega) h4 i (by omega)
    · split
      · have hp := swapRange_perm d lo hi (m - i) m h2 (by omega) h4 j (by omega)
        exact permIn_trans _ _ _ _ _ hp (rotLoop_perm m lo hi f (i - j) j _ (by omega) (by omega) (by omega) h3 (by rw [swapRange_size]; exact h4) (by omega))
      · have hp := swapRange_perm d lo hi (m - i) (m + j - i) h2 (by omega) h4 i (by omega)
        exact permIn_trans _ _ _ _ _ hp (rotLoop_perm m lo hi f i (j - i) _ (by omega) h1 h2 (by omega) (by rw [swapRange_size]; exact h4) (by omega))
theorem rotLoop_get (m : Nat) : ∀ (f i j : Nat) (d : Array α), i + j ≤ f + 1 → i ≤ m → m + j ≤ d.size → (0 < i ∧ 0 < j) → ∀ k, (rotLoop m f i j d)[k]! = d[rotAt (m - i) m (m + j) k]!
  | 0, i, j, d, h, _, _, h5, k => by omega
  | f + 1, i, j, d, h, h1, h3, h5, k => by
    rw [rotLoop]
    split
    · rename_i hij
      subst hij
      rw [swapRange_get d _ _ _ (by omega) (by omega)]
      congr 1
      unfold swIdx rotAt
      repeat' split
      all_goals omega
    · split
      · rename_i hne hji
        rw [rotLoop_get m f (i - j) j _ (by omega) (by omega) (by rw [swapRange_size]; omega) (by omega), swapRange_get d _ _ _ (by omega) (by omega)]
        congr 1
        unfold swIdx rotAt
        repeat' split
        all_goals omega
      · rename_i hne hji
        rw [rotLoop_get m f i (j - i) _ (by omega) h1 (by rw [swapRange_size]; omega) (by omega), swapRange_get d _ _ _ (by omega) (by omega)]
        congr 1
        unfold swIdx rotAt
        repeat' split
        all_goals omega
variable {lt : α → α → Bool}
theorem le_of (hS : SWO lt) {a b : Nat} {d : Array α} (h : SortedIn lt a b d) {i j : Nat} (h1 : a ≤ i) (h2 : i ≤ j) (h3 : j < b) : lt d[j]! d[i]! = false := by
  rcases Nat.lt_or_ge i j with h' | h'
  · exact h i j h1 h' h3
  · have e : i = j := by omega
    rw [e]; exact hS.irrefl _
/-- where symMerge splits: what its search has found -/
structure Split (lt : α → α → Bool) (d : Array α) (a m b start : Nat) : Prop where
  lo : (if m > (a + b) / 2 then (a + b) / 2 + m - b else a) ≤ start
  hi : start ≤ (if m > (a + b) / 2 then (a + b) / 2 else m)
  below : ∀ c, (if m > (a + b) / 2 then (a + b) / 2 + m - b else a) ≤ c → c < start → lt d[(a + b) / 2 + m - 1 - c]! d[c]! = false
  above : ∀ c, start ≤ c → c < (if m > (a + b) / 2 then (a + b) / 2 else m) → lt d[(a + b) / 2 + m - 1 - c]! d[c]! = true
theorem Split.nums {d : Array α} {a m b start : Nat} (h : Split lt d a m b start) (ham : a < m) (hmb : m < b) :
    a ≤ start ∧ start ≤ m ∧ start ≤ (a + b) / 2 ∧ m ≤ (a + b) / 2 + m - start ∧ (a + b) / 2 ≤ (a + b) / 2 + m - start ∧ (a + b) / 2 + m - start ≤ b := by
  have h1 := h.lo
  have h2 := h.hi
  split at h1 <;> split at h2 <;> omega
/-- the two halves behind the rotation -/
theorem halves (hS : SWO lt) {d d1 : Array α} {a m b start : Nat} (ham : a < m) (hmb : m < b) (h1 : SortedIn lt a m d) (h2 : SortedIn lt m b d) (hp : Split lt d a m b start)
    (hd : ∀ k, d1[k]! = d[rotAt start m ((a + b) / 2 + m - start) k]!) :
    SortedIn lt a start d1 ∧ SortedIn lt start ((a + b) / 2) d1 ∧ SortedIn lt ((a + b) / 2) ((a + b) / 2 + m - start) d1 ∧ SortedIn lt ((a + b) / 2 + m - start) b d1 ∧
    ∀ i j, a ≤ i → i < (a + b) / 2 → (a + b) / 2 ≤ j → j < b → lt d1[j]! d1[i]! = false := by
  obtain ⟨n1, n2, n3, n4, n5, n6⟩ := hp.nums ham hmb
  obtain ⟨mid, hmid⟩ : ∃ mid, mid = (a + b) / 2 := ⟨_, rfl⟩
  have hlo := hp.lo
  have hhi := hp.hi
  have hbl := hp.below
  have hab := hp.above
  rw [← hmid] at hd n3 n4 n5 n6 hlo hhi hbl hab ⊢
  obtain ⟨e, he⟩ : ∃ e, e = mid + m - start := ⟨_, rfl⟩
  rw [← he] at hd n4 n5 n6 ⊢
  have r1 : ∀ k, k < start → rotAt start m e k = k := fun k hk => by unfold rotAt; rw [if_neg (by omega), if_neg (by omega)]
  have r2 : ∀ k, start ≤ k → k < mid → rotAt start m e k = m + (k - start) := fun k h1 h2 => by unfold rotAt; rw [if_pos (by omega)]
  have r3 : ∀ k, mid ≤ k → k < e → rotAt start m e k = start + (k - mid) := fun k h1 h2 => by
    unfold rotAt
    rw [if_neg (by omega), if_pos (by omega)]
    congr 1
    omega
  have r4 : ∀ k, e ≤ k → rotAt start m e k = k := fun k h1 => by unfold rotAt; rw [if_neg (by omega), if_neg (by omega)]
  refine ⟨fun i j x1 x2 x3 => ?_, fun i j x1 x2 x3 => ?_, fun i j x1 x2 x3 => ?_, fun i j x1 x2 x3 => ?_, fun i j x1 x2 x3 x4 => ?_⟩
  · rw [hd, hd, r1 i (by omega), r1 j x3]
    exact h1 i j x1 x2 (by omega)
  · rw [hd, hd, r2 i x1 (by omega), r2 j (by omega) x3]
    exact h2 _ _ (by omega) (by omega) (by omega)
  · rw [hd, hd, r3 i x1 (by omega), r3 j (by omega) x3]
    exact h1 _ _ (by omega) (by omega) (by omega)
  · rw [hd, hd, r4 i x1, r4 j (by omega)]
    exact h2 i j (by omega) x2 x3
  · rw [hd, hd]
    rcases Nat.lt_or_ge i start with y | y
    · rw [r1 i y]
      rcases Nat.lt_or_ge j e with z | z
      · -- both of the first run
        rw [r3 j x3 z]
        exact le_of hS h1 x1 (by omega) (by omega)
      · -- A1 against B2
        rw [r4 j z]
        have hst : (if m > mid then mid + m - b else a) < start := by split at hlo <;> split <;> omega
        have q := hbl (start - 1) (by omega) (by omega)
        have e1 : mid + m - 1 - (start - 1) = e := by omega
        rw [e1] at q
        have q1 : lt d[j]! d[e]! = false := le_of hS h2 (by omega) z x4
        have q2 : lt d[start - 1]! d[i]! = false := le_of hS h1 x1 (by omega) (by omega)
        exact hS.ntrans _ _ _ (hS.ntrans _ _ _ q1 q) q2
    · rw [r2 i y x2]
      rcases Nat.lt_or_ge j e with z | z
      · -- A2 against B1
        rw [r3 j x3 z]
        have hst : start < (if m > mid then mid else m) := by split at hhi <;> split <;> omega
        have q := hab start (Nat.le_refl _) hst
        have e1 : mid + m - 1 - start = e - 1 := by omega
        rw [e1] at q
        have q0 : lt d[start]! d[e - 1]! = false := by
          cases hx : lt d[start]! d[e - 1]! with
          | false => rfl
          | true => have := hS.trans _ _ _ hx q; rw [hS.irrefl] at this; cases this
        have q1 : lt d[start + (j - mid)]! d[start]! = false := le_of hS h1 (by omega) (by omega) (by omega)
        have q2 : lt d[e - 1]! d[m + (i - start)]! = false := le_of hS h2 (by omega) (by omega) (by omega)
        exact hS.ntrans _ _ _ (hS.ntrans _ _ _ q1 q0) q2
      · -- both of the second run
        rw [r4 j z]
        exact le_of hS h2 (by omega) (by omega) x4
/-- what symMerge promises -/
def Merged (lt : α → α → Bool) (a b : Nat) (d d' : Array α) : Prop := PermIn a b d d' ∧ SortedIn lt a b d'
theorem one_run {d : Array α} {a s b : Nat} (h1 : SortedIn lt a s d) (h2 : SortedIn lt s b d) (h : s ≤ a ∨ b ≤ s) : SortedIn lt a b d := by
  intro i j x1 x2 x3
  rcases h with h | h
  · exact h2 i j (by omega) x2 x3
  · exact h1 i j x1 x2 (by omega)
/-- both halves in order, the left below the right -/
theorem both {d1 d2 d3 : Array α} {a mid b : Nat} (h0 : a ≤ mid) (h1 : mid ≤ b) (hb : b ≤ d1.size) (hx : ∀ i j, a ≤ i → i < mid → mid ≤ j → j < b → lt d1[j]! d1[i]! = false)
    (hl : Merged lt a mid d1 d2) (hr : Merged lt mid b d2 d3) : Merged lt a b d1 d3 := by
  have s2 : d2.size = d1.size := hl.1.1
  have p1 : PermIn a b d1 d2 := permIn_mono d1 d2 a mid a b (Nat.le_refl _) h1 hb hl.1
  have p2 : PermIn a b d2 d3 := permIn_mono d2 d3 mid b a b h0 (Nat.le_refl _) (by omega) hr.1
  refine ⟨permIn_trans _ _ _ _ _ p1 p2, fun i j x1 x2 x3 => ?_⟩
  have outL : ∀ k, k < mid → d3[k]! = d2[k]! := fun k hk => hr.1.2.1 k (.inl hk)
  rcases Nat.lt_or_ge j mid with y | y
  · rw [outL i (by omega), outL j y]
    exact hl.2 i j x1 x2 y
  · rcases Nat.lt_or_ge i mid with z | z
    · rw [outL i z]
      -- d2[i] is one of the left half of d1, d3[j] one of the right half of d2, that is of d1
      have q1 : ∀ k, mid ≤ k → k < b → ∀ i', a ≤ i' → i' < mid → lt d2[k]! d1[i']! = false := fun k k1 k2 i' u1 u2 => by
        rw [hl.1.2.1 k (.inr k1)]
        exact hx i' k u1 u2 k1 k2
      have q2 : ∀ i', a ≤ i' → i' < mid → ∀ k, mid ≤ k → k < b → lt d2[k]! d2[i']! = false := by
        have := permIn_all d1 d2 a mid (fun x => ∀ k, mid ≤ k → k < b → lt d2[k]! x = false) (by omega) hl.1 (fun i' u1 u2 k k1 k2 => q1 k k1 k2 i' u1 u2)
        exact this
      have q3 := permIn_all d2 d3 mid b (fun x => lt x d2[i]! = false) (by omega) hr.1 (fun k k1 k2 => q2 i x1 z k k1 k2)
      exact q3 j y x3
    · exact hr.2 i j z x2 x3
/-- data[a] goes n places up -/
def insUp (d : Array α) (a : Nat) : Nat → Array α
  | 0 => d
  | n + 1 => swp (insUp d a n) (a + n) (a + n + 1)
theorem insUp_size (d : Array α) (a : Nat) : ∀ n, (insUp d a n).size = d.size
  | 0 => rfl
  | n + 1 => by rw [insUp, size_swp, insUp_size d a n]
theorem insUp_perm (d : Array α) (lo hi a : Nat) (h1 : lo ≤ a) (h4 : hi ≤ d.size) : ∀ n, a + n < hi → PermIn lo hi d (insUp d a n)
  | 0, _ => permIn_refl _ _ _
  | n + 1, h => by
    have ih := insUp_perm d lo hi a h1 h4 n (by omega)
    exact permIn_trans _ _ _ _ _ ih (swp_permIn _ _ _ _ _ (by omega) (by omega) (by omega) (by omega) (by rw [insUp_size]; exact h4))
def upIdx (a n k : Nat) : Nat := if a ≤ k ∧ k < a + n then k + 1 else if k = a + n then a else k
theorem insUp_get (d : Array α) (a : Nat) : ∀ n, a + n < d.size → ∀ k, (insUp d a n)[k]! = d[upIdx a n k]!
  | 0, _, k => by
    rw [insUp]
    congr 1
    unfold upIdx
    repeat' split
    all_goals omega
  | n + 1, h, k => by
    have ih := insUp_get d a n (by omega)
    have hs := insUp_size d a n
    rw [insUp]
    by_cases ka : k = a + n
    · subst ka
      rw [swp_left _ _ _ (by omega) (by omega), ih]
      congr 1
      unfold upIdx
      repeat' split
      all_goals omega
    · by_cases kb : k = a + n + 1
      · subst kb
        rw [swp_right _ _ _ (by omega), ih]
        congr 1
        unfold upIdx
        repeat' split
        all_goals omega
      · rw [swp_other _ _ _ _ ka kb, ih]
        congr 1
        unfold upIdx
        repeat' split
        all_goals omega
/-- data[m] goes n places down -/
def insDown (d : Array α) (m : Nat) : Nat → Array α
  | 0 => d
  | n + 1 => swp (insDown d m n) (m - n) (m - n - 1)
theorem insDown_size (d : Array α) (m : Nat) : ∀ n, (insDown d m n).size = d.size
  | 0 => rfl
  | n + 1 => by rw [insDown, size_swp, insDown_size d m n]
theorem insDown_perm (d : Array α) (lo hi m : Nat) (h1 : m < hi) (h4 : hi ≤ d.size) : ∀ n, lo + n ≤ m → PermIn lo hi d (insDown d m n)
  | 0, _ => permIn_refl _ _ _
  | n + 1, h => by
    have ih := insDown_perm d lo hi m h1 h4 n (by omega)
    exact permIn_trans _ _ _ _ _ ih (swp_permIn _ _ _ _ _ (by omega) (by omega) (by omega) (by omega) (by rw [insDown_size]; exact h4))
def downIdx (m n k : Nat) : Nat := if m - n < k ∧ k ≤ m then k - 1 else if k = m - n then m else k
theorem insDown_get (d : Array α) (m : Nat) (hm : m < d.size) : ∀ n, n ≤ m → ∀ k, (insDown d m n)[k]! = d[downIdx m n k]!
  | 0, _, k => by
    rw [insDown]
    congr 1
    unfold downIdx
    repeat' split
    all_goals omega
  | n + 1, h, k => by
    have ih := insDown_get d m hm n (by omega)
    have hs := insDown_size d m n
    rw [insDown]
    by_cases ka : k = m - n
    · subst ka
      rw [swp_left _ _ _ (by omega) (by omega), ih]
      congr 1
      unfold downIdx
      repeat' split
      all_goals omega
    · by_cases kb : k = m - n - 1
      · subst kb
        rw [swp_right _ _ _ (by omega), ih]
        congr 1
        unfold downIdx
        repeat' split
        all_goals omega
      · rw [swp_other _ _ _ _ ka kb, ih]
        congr 1
        unfold downIdx
        repeat' split
        all_goals omega
/-- the left run has one element -/
theorem merged_up (hS : SWO lt) {d : Array α} {a b i : Nat} (hab : a + 1 < b) (hb : b ≤ d.size) (h2 : SortedIn lt (a + 1) b d) (h3 : a + 1 ≤ i) (h4 : i ≤ b)
    (hlo : ∀ c, a + 1 ≤ c → c < i → lt d[c]! d[a]! = true) (hhi : ∀ c, i ≤ c → c < b → lt d[c]! d[a]! = false) : Merged lt a b d (insUp d a (i - 1 - a)) := by
  refine ⟨insUp_perm d a b a (Nat.le_refl _) hb _ (by omega), fun x y x1 x2 x3 => ?_⟩
  rw [insUp_get d a _ (by omega), insUp_get d a _ (by omega)]
  have u1 : ∀ k, a ≤ k → k < i - 1 → upIdx a (i - 1 - a) k = k + 1 := fun k k1 k2 => by unfold upIdx; rw [if_pos (by omega)]
  have u2 : upIdx a (i - 1 - a) (i - 1) = a := by unfold upIdx; rw [if_neg (by omega), if_pos (by omega)]
  have u3 : ∀ k, i ≤ k → upIdx a (i - 1 - a) k = k := fun k k1 => by unfold upIdx; rw [if_neg (by omega), if_neg (by omega)]
  rcases Nat.lt_or_ge x (i - 1) with p | p
  · rw [u1 x x1 p]
    rcases Nat.lt_or_ge y (i - 1) with q | q
    · rw [u1 y (by omega) q]
      exact h2 _ _ (by omega) (by omega) (by omega)
    · rcases Nat.lt_or_ge y i with r | r
      · have e : y = i - 1 := by omega
        rw [e, u2]
        have h := hlo (x + 1) (by omega) (by omega)
        cases hx : lt d[a]! d[x + 1]! with
        | false => rfl
        | true => have := hS.trans _ _ _ hx h; rw [hS.irrefl] at this; cases this
      · rw [u3 y r]
        exact h2 _ _ (by omega) (by omega) (by omega)
  · rcases Nat.lt_or_ge x i with r | r
    · have e : x = i - 1 := by omega
      rw [e, u2, u3 y (by omega)]
      exact hhi y (by omega) x3
    · rw [u3 x r, u3 y (by omega)]
      exact h2 _ _ (by omega) x2 x3
/-- the right run has one element -/
theorem merged_down (hS : SWO lt) {d : Array α} {a m i : Nat} (ham : a < m) (hb : m + 1 ≤ d.size) (h1 : SortedIn lt a m d) (h3 : a ≤ i) (h4 : i ≤ m)
    (hlo : ∀ c, a ≤ c → c < i → lt d[m]! d[c]! = false) (hhi : ∀ c, i ≤ c → c < m → lt d[m]! d[c]! = true) : Merged lt a (m + 1) d (insDown d m (m - i)) := by
  refine ⟨insDown_perm d a (m + 1) m (by omega) hb _ (by omega), fun x y x1 x2 x3 => ?_⟩
  rw [insDown_get d m (by omega) _ (by omega), insDown_get d m (by omega) _ (by omega)]
  have u1 : ∀ k, i < k → k ≤ m → downIdx m (m - i) k = k - 1 := fun k k1 k2 => by unfold downIdx; rw [if_pos (by omega)]
  have u2 : downIdx m (m - i) i = m := by unfold downIdx; rw [if_neg (by omega), if_pos (by omega)]
  have u3 : ∀ k, k < i → downIdx m (m - i) k = k := fun k k1 => by unfold downIdx; rw [if_neg (by omega), if_neg (by omega)]
  rcases Nat.lt_or_ge x i with p | p
  · rw [u3 x p]
    rcases Nat.lt_or_ge y i with q | q
    · rw [u3 y q]
      exact h1 _ _ x1 x2 (by omega)
    · rcases Nat.lt_or_ge i y with r | r
      · rw [u1 y r (by omega)]
        exact h1 _ _ x1 (by omega) (by omega)
      · have e : y = i := by omega
        rw [e, u2]
        exact hlo x x1 p
  · rcases Nat.lt_or_ge i x with r | r
    · rw [u1 x r (by omega), u1 y (by omega) (by omega)]
      exact h1 _ _ (by omega) (by omega) (by omega)
    · have e : x = i := by omega
      rw [e, u2, u1 y (by omega) (by omega)]
      have h := hhi (y - 1) (by omega) (by omega)
      cases hx : lt d[y - 1]! d[m]! with
      | false => rfl
      | true => have := hS.trans _ _ _ hx h; rw [hS.irrefl] at this; cases this
/-- a binary search's state: what is known true ahead, false behind -/
structure Found (t : Nat → Bool) (lo hi i j : Nat) : Prop where
  a : lo ≤ i
  b : i ≤ j
  c : j ≤ hi
  yes : ∀ k, lo ≤ k → k < i → t k = true
  no : ∀ k, j ≤ k → k < hi → t k = false
theorem Found.start (t : Nat → Bool) (lo hi : Nat) (h : lo ≤ hi) : Found t lo hi lo hi := ⟨Nat.le_refl _, h, Nat.le_refl _, fun k h1 h2 => by omega, fun k h1 h2 => by omega⟩
def Mono (t : Nat → Bool) (lo hi : Nat) : Prop := ∀ c c', lo ≤ c → c ≤ c' → c' < hi → t c' = true → t c = true
theorem Found.up {t : Nat → Bool} {lo hi i j h : Nat} (hm : Mono t lo hi) (f : Found t lo hi i j) (h1 : i ≤ h) (h2 : h < j) (ht : t h = true) : Found t lo hi (h + 1) j :=
  ⟨by have := f.a; omega, h2, f.c, fun k k1 k2 => hm k h k1 (by omega) (by have := f.c; omega) ht, f.no⟩
theorem Found.down {t : Nat → Bool} {lo hi i j h : Nat} (hm : Mono t lo hi) (f : Found t lo hi i j) (h1 : i ≤ h) (h2 : h < j) (ht : t h = false) : Found t lo hi i h :=
  ⟨f.a, h1, by have := f.c; omega, f.yes, fun k k1 k2 => by
    cases hk : t k with
    | false => rfl
    | true => have := hm h k (by have := f.a; omega) k1 k2 hk; rw [ht] at this; cases this⟩
def tUp (lt : α → α → Bool) (d : Array α) (a h : Nat) : Bool := lt d[h]! d[a]!
def tDown (lt : α → α → Bool) (d : Array α) (m h : Nat) : Bool := !lt d[m]! d[h]!
def tMid (lt : α → α → Bool) (d : Array α) (p c : Nat) : Bool := !lt d[p - c]! d[c]!
omit [Inhabited α] in
theorem lt_le (hS : SWO lt) {x y z : α} (h1 : lt x y = true) (h2 : lt z y = false) : lt x z = true := by
  cases h : lt x z with
  | true => rfl
  | false => have := hS.ntrans _ _ _ h h2; rw [h1] at this; cases this
omit [Inhabited α] in
theorem le_lt (hS : SWO lt) {x y z : α} (h1 : lt y x = false) (h2 : lt y z = true) : lt x z = true := by
  cases h : lt x z with
  | true => rfl
  | false => have := hS.ntrans _ _ _ h1 h; rw [h2] at this; cases this
theorem mono_up (hS : SWO lt) {d : Array α} {a m b : Nat} (h2 : SortedIn lt m b d) : Mono (tUp lt d a) m b := by
  intro c c' x1 x2 x3 ht
  unfold tUp at ht ⊢
  exact le_lt hS (le_of hS h2 x1 x2 x3) ht
theorem mono_down (hS : SWO lt) {d : Array α} {a m : Nat} (h1 : SortedIn lt a m d) : Mono (tDown lt d m) a m := by
  intro c c' x1 x2 x3 ht
  unfold tDown at ht ⊢
  simp only [Bool.not_eq_true'] at ht ⊢
  exact hS.ntrans _ _ _ ht (le_of hS h1 x1 x2 x3)
theorem mono_mid (hS : SWO lt) {d : Array α} {a m b lo hi p : Nat} (h1 : SortedIn lt a m d) (h2 : SortedIn lt m b d) (hlo : a ≤ lo) (hhi : hi ≤ m) (hp : ∀ c, lo ≤ c → c < hi → m ≤ p - c ∧ p - c < b ∧ c ≤ p) : Mono (tMid lt d p) lo hi := by
  intro c c' x1 x2 x3 ht
  unfold tMid at ht ⊢
  simp only [Bool.not_eq_true'] at ht ⊢
  have y1 := hp c x1 (by omega)
  have y2 := hp c' (by omega) x3
  exact hS.ntrans _ _ _ (hS.ntrans _ _ _ (le_of hS h2 y2.1 (by omega) y1.2.1) ht) (le_of hS h1 (by omega) x2 (by omega))
theorem found_up (hS : SWO lt) {d : Array α} {a b i : Nat} (hab : a + 1 < b) (hb : b ≤ d.size) (h2 : SortedIn lt (a + 1) b d) (f : Found (tUp lt d a) (a + 1) b i i) : Merged lt a b d (insUp d a (i - 1 - a)) :=
  merged_up hS hab hb h2 f.a f.c (fun c x1 x2 => f.yes c x1 x2) (fun c x1 x2 => f.no c x1 x2)
theorem found_down (hS : SWO lt) {d : Array α} {a m i : Nat} (ham : a < m) (hb : m + 1 ≤ d.size) (h1 : SortedIn lt a m d) (f : Found (tDown lt d m) a m i i) : Merged lt a (m + 1) d (insDown d m (m - i)) :=
  merged_down hS ham hb h1 f.a f.c (fun c x1 x2 => by have := f.yes c x1 x2; simpa [tDown] using this) (fun c x1 x2 => by have := f.no c x1 x2; simpa [tDown] using this)
def sLo (a m b : Nat) : Nat := if m > (a + b) / 2 then (a + b) / 2 + m - b else a
def sHi (a m b : Nat) : Nat := if m > (a + b) / 2 then (a + b) / 2 else m
theorem found_mid {d : Array α} {a m b s : Nat} (f : Found (tMid lt d ((a + b) / 2 + m - 1)) (sLo a m b) (sHi a m b) s s) : Split lt d a m b s :=
  ⟨f.a, f.c, fun c x1 x2 => by have := f.yes c x1 x2; simpa [tMid] using this, fun c x1 x2 => by have := f.no c x1 x2; simpa [tMid] using this⟩
theorem sLoHi {a m b : Nat} (ham : a < m) (hmb : m < b) : a ≤ sLo a m b ∧ sLo a m b ≤ sHi a m b ∧ sHi a m b ≤ m ∧ ∀ c, sLo a m b ≤ c → c < sHi a m b → m ≤ (a + b) / 2 + m - 1 - c ∧ (a + b) / 2 + m - 1 - c < b ∧ c ≤ (a + b) / 2 + m - 1 := by
  unfold sLo sHi
  split
  · refine ⟨by omega, by omega, by omega, fun c x1 x2 => by omega⟩
  · refine ⟨by omega, by omega, by omega, fun c x1 x2 => by omega⟩
theorem rotLoop_size (m : Nat) : ∀ (f i j : Nat) (d : Array α), (rotLoop m f i j d).size = d.size
  | 0, i, j, d => swapRange_size _ _ _ _
  | f + 1, i, j, d => by
    rw [rotLoop]
    split
    · exact swapRange_size _ _ _ _
    · split <;> rw [rotLoop_size m f, swapRange_size]
/-- what stands behind the rotation, or where none is wanted -/
structure Turned (lt : α → α → Bool) (d d1 : Array α) (a m b s : Nat) : Prop where
  perm : PermIn a b d d1
  l1 : SortedIn lt a s d1
  l2 : SortedIn lt s ((a + b) / 2) d1
  r1 : SortedIn lt ((a + b) / 2) ((a + b) / 2 + m - s) d1
  r2 : SortedIn lt ((a + b) / 2 + m - s) b d1
  x : ∀ i j, a ≤ i → i < (a + b) / 2 → (a + b) / 2 ≤ j → j < b → lt d1[j]! d1[i]! = false
theorem turned_yes (hS : SWO lt) {d : Array α} {a m b s : Nat} (ham : a < m) (hmb : m < b) (hb : b ≤ d.size) (h1 : SortedIn lt a m d) (h2 : SortedIn lt m b d) (hp : Split lt d a m b s) (hs : s < m) (he : m < (a + b) / 2 + m - s) :
    Turned lt d (rotLoop m ((a + b) / 2 + m - s - s) (m - s) ((a + b) / 2 + m - s - m) d) a m b s := by
  obtain ⟨n1, n2, n3, n4, n5, n6⟩ := hp.nums ham hmb
  have hg := rotLoop_get m ((a + b) / 2 + m - s - s) (m - s) ((a + b) / 2 + m - s - m) d (by omega) (by omega) (by omega) (by omega)
  have e1 : m - (m - s) = s := by omega
  have e2 : m + ((a + b) / 2 + m - s - m) = (a + b) / 2 + m - s := by omega
  rw [e1, e2] at hg
  obtain ⟨q1, q2, q3, q4, q5⟩ := halves hS ham hmb h1 h2 hp hg
  exact ⟨rotLoop_perm m a b _ _ _ d (by omega) (by omega) (by omega) (by omega) hb (by omega), q1, q2, q3, q4, q5⟩
theorem turned_no (hS : SWO lt) {d : Array α} {a m b s : Nat} (ham : a < m) (hmb : m < b) (hb : b ≤ d.size) (h1 : SortedIn lt a m d) (h2 : SortedIn lt m b d) (hp : Split lt d a m b s) (h : ¬ (s < m ∧ m < (a + b) / 2 + m - s)) : Turned lt d d a m b s := by
  obtain ⟨n1, n2, n3, n4, n5, n6⟩ := hp.nums ham hmb
  obtain ⟨q1, q2, q3, q4, q5⟩ := halves hS ham hmb h1 h2 hp (fun k => by rw [rotAt_same n2 n4 (by omega)])
  exact ⟨permIn_refl _ _ _, q1, q2, q3, q4, q5⟩
theorem merged_self {d : Array α} {a s b : Nat} (h1 : SortedIn lt a s d) (h2 : SortedIn lt s b d) (h : ¬ (a < s ∧ s < b)) : Merged lt a b d d := ⟨permIn_refl _ _ _, one_run h1 h2 (by omega)⟩
theorem Merged.right {d1 d2 : Array α} {a mid x y : Nat} (h : Merged lt a mid d1 d2) (hx : mid ≤ x) (hs : SortedIn lt x y d1) : SortedIn lt x y d2 := by
  intro i j x1 x2 x3
  rw [h.1.2.1 i (.inr (by omega)), h.1.2.1 j (.inr (by omega))]
  exact hs i j x1 x2 x3
theorem merged_all {d d1 d2 d3 : Array α} {a m b s : Nat} (ham : a < m) (hmb : m < b) (hb : b ≤ d.size) (T : Turned lt d d1 a m b s) (hl : Merged lt a ((a + b) / 2) d1 d2) (hr : Merged lt ((a + b) / 2) b d2 d3) : Merged lt a b d d3 := by
  have h1 : d1.size = d.size := T.perm.1
  have h := both (by omega) (by omega) (by omega) T.x hl hr
  exact ⟨permIn_trans _ _ _ _ _ T.perm h.1, h.2⟩
end Go.Proofs.YtaneicpggglcbaaDoor.So
