/- The law GeomRoom over numbers alone: of d numbers that are together at most 3 * lines * (d - 2) / 2 the two least are together at most 3 * lines. -/
import Derived.Test.YtcoojeeblgpfjaaPAx11
import Derived.Test.YtcoojeeblgpfjaaPAx10
import Derived.Test.YtcoojeeblgpfjaaWorks06
namespace Go.Proofs.Ytcoojeeblgpfjaa.PA
open Go.RowKit Go.Proofs.YtcoojeeblgpfjaaW.PrintWords

theorem below_range (a n : Int) (hn : 0 < n) (hn2 : n ≤ 100000) : ∃ r, decklebook_Below.f a n = some r ∧ 0 ≤ r ∧ r < n := by
  unfold decklebook_Below.f
  rw [if_neg (by omega)]
  by_cases h0 : 0 ≤ a
  · have e := Int.tmod_eq_emod_of_nonneg (b := n) h0
    have r1 := Int.emod_nonneg a (show n ≠ 0 by omega)
    have r2 := Int.emod_lt_of_pos a hn
    rw [e, if_neg (by omega)]
    exact ⟨_, rfl, r1, r2⟩
  · have e : Int.tmod a n = - ((-a) % n) := by
      rw [← Int.tmod_eq_emod_of_nonneg (by omega), Int.neg_tmod, Int.neg_neg]
    have r1 := Int.emod_nonneg (-a) (show n ≠ 0 by omega)
    have r2 := Int.emod_lt_of_pos (-a) hn
    rw [e]
    by_cases h : -(-a % n) < 0
    · rw [if_pos h, w64 (by omega) (by omega)]
      exact ⟨_, rfl, by omega, by omega⟩
    · rw [if_neg h]
      exact ⟨_, rfl, by omega, by omega⟩

theorem room_fin {T d a b s : Int} (hd : 2 ≤ d) (hab : a ≤ b) (hT : 0 ≤ T) (hs : 2 * s ≤ T * (d - 2)) (h : a + (d - 1) * b ≤ s) : a + b ≤ T := by
  have h1 : 0 ≤ (d - 2) * (b - a) := Int.mul_nonneg (by omega) (by omega)
  have h2 : (d - 2) * (b - a) = (d - 1) * b - b - (d * a - 2 * a) := by
    rw [Int.mul_sub, Int.sub_mul, Int.sub_mul, Int.sub_mul]; omega
  have h3 : T * (d - 2) = T * d - 2 * T := by rw [Int.mul_sub]; omega
  have h4 : d * (a + b) = d * a + ((d - 1) * b + b) := by rw [Int.mul_add, Int.sub_mul]; omega
  have h5 : d * (a + b) ≤ d * T := by rw [h4, Int.mul_comm d T]; omega
  exact Int.le_of_mul_le_mul_left h5 (by omega)

theorem room_l1 (b l y s p w : Int) (hl : 6 ≤ l ∧ l ≤ 64) (xs : List Int) (hlen : xs.length ≤ 64) (hx : ∀ x ∈ xs, 0 ≤ x ∧ x ≤ 1000) (hs : 2 * s ≤ 3 * l * xs.length) :
    ∀ (n k i : Nat) (u v : Int), xs.length - i = n → n < k → i ≤ xs.length → 0 ≤ u → u ≤ v → v ≤ 1000 → u + ((i : Int) + 1) * v + (xs.drop i).sum ≤ s →
      decklelaw06_GeomRoom.l1 k u v xs (xs.length : Int) (i : Int) b l y s p w = some true := by
  intro n
  induction n with
  | zero =>
    intro k i u v hn hk hi h0 h1 h2 h3
    obtain ⟨k, rfl⟩ : ∃ m, k = m + 1 := ⟨k - 1, by omega⟩
    simp only [decklelaw06_GeomRoom.l1]
    rw [if_neg (by omega), w64 (x := u + v) (by omega) (by omega), w64 (x := 3 * l) (by omega) (by omega)]
    rw [List.drop_of_length_le (by omega), List.sum_nil] at h3
    have : u + v ≤ 3 * l := room_fin (d := (xs.length : Int) + 2) (s := s) (by omega) h1 (by omega) (by rw [show (xs.length : Int) + 2 - 2 = xs.length by omega]; exact hs) (by rw [show (xs.length : Int) + 2 - 1 = (i : Int) + 1 by omega]; omega)
    simp [this]
  | succ n ih =>
    intro k i u v hn hk hi h0 h1 h2 h3
    obtain ⟨k, rfl⟩ : ∃ m, k = m + 1 := ⟨k - 1, by omega⟩
    have hlt : i < xs.length := by omega
    have hrd : rd xs (i : Int) = xs[i] := by simp [rd, List.getD_eq_getElem?_getD, hlt]
    obtain ⟨g1, g2⟩ := hx xs[i] (List.getElem_mem hlt)
    rw [List.drop_eq_getElem_cons hlt, List.sum_cons] at h3
    simp only [decklelaw06_GeomRoom.l1]
    rw [if_pos (by omega), if_pos (by omega), if_pos (by omega), hrd, w64 (x := (i : Int) + 1) (by omega) (by omega), show (i : Int) + 1 = ((i + 1 : Nat) : Int) by omega]
    generalize xs[i] = q at *
    generalize hrest : (xs.drop (i + 1)).sum = rest at *
    have hi1 : (((i + 1 : Nat) : Int) + 1) = (i : Int) + 1 + 1 := by omega
    by_cases c1 : q < u
    · rw [if_pos c1]
      refine ih k (i + 1) q u (by omega) (by omega) (by omega) g1 (by omega) (by omega) ?_
      have m := Int.mul_le_mul_of_nonneg_left h1 (show 0 ≤ (i : Int) + 1 by omega)
      rw [hrest, hi1, Int.add_mul ((i : Int) + 1) 1 u]
      omega
    · rw [if_neg c1]
      by_cases c2 : q < v
      · rw [if_pos c2]
        refine ih k (i + 1) u q (by omega) (by omega) (by omega) h0 (by omega) (by omega) ?_
        have m := Int.mul_le_mul_of_nonneg_left (show q ≤ v by omega) (show 0 ≤ (i : Int) + 1 by omega)
        rw [hrest, hi1, Int.add_mul ((i : Int) + 1) 1 q]
        omega
      · rw [if_neg c2]
        refine ih k (i + 1) u v (by omega) (by omega) (by omega) h0 h1 h2 ?_
        rw [hrest, hi1, Int.add_mul ((i : Int) + 1) 1 v]
        omega

theorem room_done (b l y s p w : Int) (hl : 6 ≤ l ∧ l ≤ 64) (x1 : List Int) (L : List Int) (hlen : 2 ≤ L.length) (hlen2 : L.length ≤ 64) (hx : ∀ x ∈ L, 0 ≤ x ∧ x ≤ 1000) (hsum : L.sum ≤ s) (hs : 2 * s ≤ 3 * l * ((L.length : Int) - 2)) (left : Int) (k : Nat) (hk : 70 < k) :
    decklelaw06_GeomRoom.l0 k x1 (L.length : Int) left L (L.length : Int) b l y s p w = some true := by
  obtain ⟨k, rfl⟩ : ∃ m, k = m + 2 := ⟨k - 2, by omega⟩
  match L, hlen with
  | u :: v :: xs, _ =>
    obtain ⟨u1, u2⟩ := hx u (by simp)
    obtain ⟨v1, v2⟩ := hx v (by simp)
    have hl2 : (u :: v :: xs).length = xs.length + 2 := rfl
    rw [hl2] at hlen2 hs ⊢
    simp only [List.sum_cons] at hsum
    have r0 : rd (u :: v :: xs) 0 = u := rfl
    have r1 : rd (u :: v :: xs) 1 = v := rfl
    have fin : ∀ m q, 0 ≤ m → m ≤ q → q ≤ 1000 → m + q = u + v → decklelaw06_GeomRoom.j1 (k + 1) (u :: v :: xs) m q b l y s p w = some true := by
      intro m q hm hmq hq hmq2
      simp only [decklelaw06_GeomRoom.j1]
      rw [if_pos (by rw [hl2]; omega)]
      simp only [Option.bind_some, List.drop_succ_cons, List.drop_zero]
      refine room_l1 b l y s p w hl xs (by omega) (fun x hxx => hx x (by simp [hxx])) (by rw [show (((xs.length + 2 : Nat) : Int) - 2) = xs.length by omega] at hs; exact hs) xs.length k 0 m q (by omega) (by omega) (by omega) hm hmq hq ?_
      simp only [List.drop_zero]
      omega
    rw [decklelaw06_GeomRoom.l0]
    rw [if_neg (by omega), if_neg (by omega), if_pos (by omega), if_pos (by omega), r0, r1]
    by_cases c : v < u
    · rw [if_pos c]; exact fin v u v1 (by omega) u2 (by omega)
    · rw [if_neg c]; exact fin u v u1 (by omega) v2 (by omega)

theorem room_l0 (b l y s p w : Int) (hl : 6 ≤ l ∧ l ≤ 64) (hs0 : s ≤ 4096) (x1 : List Int) (d : Nat) (hd : 2 ≤ d) (hd2 : d ≤ 64) (hs : 2 * s ≤ 3 * l * ((d : Int) - 2)) :
    ∀ (n k : Nat) (L : List Int) (left : Int), d - L.length = n → L.length ≤ d → n + 71 < k → 0 ≤ left → (∀ x ∈ L, 0 ≤ x ∧ x ≤ 1000) → L.sum + left = s →
      decklelaw06_GeomRoom.l0 k x1 (d : Int) left L (L.length : Int) b l y s p w = some true := by
  intro n
  induction n with
  | zero =>
    intro k L left hn hL hk h0 hx hsum
    obtain rfl : d = L.length := by omega
    exact room_done b l y s p w hl x1 L hd hd2 hx (by omega) hs left k (by omega)
  | succ n ih =>
    intro k L left hn hL hk h0 hx hsum
    obtain ⟨k, rfl⟩ : ∃ m, k = m + 1 := ⟨k - 1, by omega⟩
    have hLs : 0 ≤ L.sum := by
      clear hn hk hsum hL ih
      induction L with
      | nil => simp
      | cons z r ihr => rw [List.sum_cons]; have := (hx z (by simp)).1; have := ihr (fun x h => hx x (by simp [h])); omega
    have step : ∀ q, 0 ≤ q → q ≤ left → q ≤ 1000 → decklelaw06_GeomRoom.l0 k x1 (d : Int) (wrap64 (left - q)) (L ++ [q]) (wrap64 ((L.length : Int) + 1)) b l y s p w = some true := by
      intro q hq1 hq2 hq3
      rw [w64 (x := left - q) (by omega) (by omega), w64 (x := (L.length : Int) + 1) (by omega) (by omega)]
      have := ih k (L ++ [q]) (left - q) (by simp; omega) (by simp; omega) (by omega) (by omega) (by intro x hxx; rcases List.mem_append.1 hxx with h | h; exact hx x h; rw [List.mem_singleton.1 h]; exact ⟨hq1, hq3⟩) (by rw [List.sum_append]; simp; omega)
      rw [show ((L ++ [q]).length : Int) = (L.length : Int) + 1 by simp] at this
      exact this
    simp only [decklelaw06_GeomRoom.l0]
    rw [if_pos (by omega)]
    by_cases c : (L.length : Int) < (x1.length : Int)
    · rw [if_pos c, if_pos (by omega), w64 (x := 3 * l) (by omega) (by omega), w64 (x := 3 * l + 1) (by omega) (by omega)]
      obtain ⟨r, hr, r1, r2⟩ := below_range (rd x1 (L.length : Int)) (3 * l + 1) (by omega) (by omega)
      rw [hr]
      simp only [Option.bind_some]
      rw [if_pos (by omega)]
      exact step (mn r left) (by unfold mn; omega) (by unfold mn; omega) (by unfold mn; omega)
    · rw [if_neg c, if_pos (by omega)]
      exact step 0 (by omega) (by omega) (by omega)

theorem room_pure (b l y s p w : Int) (xs : List Int) (hb : (Lit.int .i64 b).wf = true) (hl : (Lit.int .i64 l).wf = true) : decklelaw06_GeomRoom.f 200 b l y s p w xs = some true := by
  unfold decklelaw06_GeomRoom.f
  rw [works06 200 (by omega), check_some b l y s p w hb hl 200 (by omega)]
  simp only [Option.bind_some, if_true]
  by_cases h : GeoOk b l y s p w
  · rw [if_pos h, if_pos rfl]
    obtain ⟨⟨h1, h2, h3, h4, h5, h6, h7⟩, h8, h9, h10⟩ := h
    rw [w64 (x := b - p) (by omega) (by omega), w64 (x := b - p - 4) (by omega) (by omega)]
    have hd : b - p - 4 = ((b - p - 4).toNat : Int) := by omega
    rw [hd]
    refine room_l0 b l y s p w h2 h7.2 xs _ (by omega) (by omega) ?_ (b - p - 4).toNat 200 [] s (by simp) (by simp) (by omega) (by omega) (by simp) (by simp)
    rw [← hd]
    unfold mostOf at h9
    rw [show b - p - 4 - 2 = b - p - 6 by omega]
    omega
  · rw [if_neg h, if_neg (by decide)]
end Go.Proofs.Ytcoojeeblgpfjaa.PA
