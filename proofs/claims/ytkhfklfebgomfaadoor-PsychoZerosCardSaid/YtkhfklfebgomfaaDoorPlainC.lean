/- Chapter 11: sums, what rises, tones. -/
import Derived.Test.YtkhfklfebgomfaaDoorPlainB
import Derived.Test.YtkhfklfebgomfaaDoorFrameG
import Derived.Test.YtkhfklfebgomfaaDoorPlainA
set_option linter.unusedVariables false
set_option linter.unusedSimpArgs false
namespace Go.Sh.c12.p11
theorem blks_sum : ∀ (k : Nat) (l : List Int), l.length = 16 * k → (blks k l).sum = sq l
  | 0, l, h => by
    have : l = [] := List.length_eq_zero_iff.1 (by omega)
    subst this; rfl
  | k + 1, l, h => by
    simp only [blks, List.sum_cons]
    rw [blks_sum k (l.drop 16) (by simp; omega), sq_take_drop]
theorem blks_val : ∀ (k : Nat) (l : List Int), InR l → ∀ x ∈ blks k l, 0 ≤ x ∧ x ≤ 70368744177664
  | 0, _, _, x, hx => by cases hx
  | k + 1, l, h, x, hx => by
    rcases List.mem_cons.1 hx with rfl | hx
    · have := sq_bound (h.take 16)
      have h2 : (l.take 16).length ≤ 16 := by simp; omega
      omega
    · exact blks_val k _ (h.drop 16) x hx
theorem bnds_val {c : List Int} {s : Bool} {g : List Int} (h : Good c s g) : ∀ x ∈ (bnds c s g).map sq, 0 ≤ x ∧ x ≤ 562949953421312 := fun x hx => by
  obtain ⟨p, hp, rfl⟩ := List.mem_map.1 hx
  obtain ⟨a, _, b⟩ := h.bands p hp
  have := sq_bound a
  omega
theorem bnds_sum {c : List Int} {s : Bool} {g : List Int} (h : Good c s g) : ((bnds c s g).map sq).sum = sq c := by
  unfold bnds
  rw [cutW_sq _ _ (fun x hx => by have := (h.wval x hx).1; omega) (by rw [h.wsum, h.glen]; rfl), sq_gath h.d h.len]
theorem lv_zero : lv 0 = 0 := by
  have := lv_pow 0
  simpa using this
theorem en_all {a b : Int} : ([a, b].all enOk = true) ↔ (0 ≤ a ∧ a ≤ 72057594037927936) ∧ (0 ≤ b ∧ b ≤ 72057594037927936) := by
  unfold enOk
  simp
/-! ### Tones -/
theorem tn_range (p : List Int) : 0 ≤ tn p ∧ tn p ≤ 255 := by
  unfold tn
  repeat' split
  all_goals omega
theorem same_sum {f : Int → Int} {y : Int} : ∀ (l : List Int), (∀ x ∈ l, f x = y) → (l.map f).sum = y * l.length
  | [], _ => by simp
  | x :: r, h => by
    simp only [List.map_cons, List.sum_cons, List.length_cons]
    rw [same_sum r fun z hz => h z (by simp [hz]), h x (by simp), Int.natCast_add, Int.mul_add]
    simp; omega
theorem tn_same {p : List Int} {v : Int} (h1 : 1 ≤ p.length) (h : ∀ x ∈ p, x * x = v * v) : tn p = 0 := by
  have e1 : sq p = v * v * p.length := same_sum p h
  have e2 : lsum p = lv (v * v) * p.length := same_sum p fun x hx => by rw [h x hx]
  have e3 : tdif p = 0 := by
    unfold tdif
    rw [e1, e2, Int.mul_tdiv_cancel _ (by omega), Int.mul_tdiv_cancel _ (by omega)]; omega
  unfold tn
  rw [e3]; rfl
theorem gath_of_mem {c : List Int} {s : Bool} {g : List Int} (h : Good c s g) : ∀ (w l : List Int), (∀ x ∈ l, x ∈ c) → ∀ p ∈ cutW l w, ∀ x ∈ p, x ∈ c
  | [], _, _, p, hp => by cases hp
  | w :: r, l, hl, p, hp => by
    rcases List.mem_cons.1 hp with rfl | hp
    · exact fun x hx => hl x (List.mem_of_mem_take hx)
    · exact gath_of_mem h r _ (fun x hx => hl x (List.mem_of_mem_drop hx)) p hp
theorem tones_part {c : List Int} {v : Int} (hc : c.length = 128) (hv0 : 0 ≤ v) (hv1 : v ≤ 2097152) (hcv : ∀ j, j < 128 → c.getD j 0 = v ∨ c.getD j 0 = -v) {s : Bool} {g : List Int} (hd : isDiv s g = true) :
    f47F 200000 c s g = some (((bnds c s g).map tn, ()), ((), (0, ()))) ∧ (∀ x ∈ (bnds c s g).map tn, x = 0) ∧
    f47F 200000 (c.set 5 (Int.tdiv (0 - c.getD 5 0) 2)) s g = some (((bnds (c.set 5 (Int.tdiv (0 - c.getD 5 0) 2)) s g).map tn, ()), ((), (0, ()))) ∧ (∀ x ∈ (bnds (c.set 5 (Int.tdiv (0 - c.getD 5 0) 2)) s g).map tn, 0 ≤ x ∧ x ≤ 255) ∧
    (bnds c s g).length = (widths s g).length ∧ (bnds (c.set 5 (Int.tdiv (0 - c.getD 5 0) 2)) s g).length = (widths s g).length ∧ 0 < (widths s g).length ∧ (widths s g).length ≤ 32 := by
  have hm : ∀ x ∈ c, x = v ∨ x = -v := fun x hx => by
    obtain ⟨q, hq, rfl⟩ := List.mem_iff_getElem.1 hx
    have := hcv q (by omega)
    simpa [List.getD, List.getElem?_eq_getElem hq] using this
  have hin : InR c := fun x hx => by have := hm x hx; omega
  have h5 := hcv 5 (by omega)
  have hin2 : InR (c.set 5 (Int.tdiv (0 - c.getD 5 0) 2)) := fun x hx => by
    rcases List.mem_or_eq_of_mem_set hx with hx | rfl
    · exact hin x hx
    · have := p03.tdiv_bound (a := 0 - c.getD 5 0) (b := 2) (B := 2097152) (by omega) (by omega) (by omega)
      exact this
  have s1 := sp_of hd hc hin
  have s2 := sp_of hd (show (c.set 5 (Int.tdiv (0 - c.getD 5 0) 2)).length = 128 by simp [hc]) hin2
  have hh := Good.of s1
  obtain ⟨w1, w2⟩ := p10.widths_len hd
  refine ⟨by rw [f16_eq (by omega), s1]; rfl, fun x hx => ?_, by rw [f16_eq (by omega), s2]; rfl, fun x hx => ?_, bnds_len _ _ _, bnds_len _ _ _, ?_, w1⟩
  · obtain ⟨p, hp, rfl⟩ := List.mem_map.1 hx
    refine tn_same (v := v) (hh.bands p hp).2.1 fun x hx => ?_
    have := hm x (gath_of_mem hh _ _ (fun x hx => (gath_mem hd hc).1 hx) p hp x hx)
    rcases this with rfl | rfl
    · rfl
    · rw [Int.neg_mul_neg]
  · obtain ⟨p, _, rfl⟩ := List.mem_map.1 hx
    exact tn_range p
  · exact List.length_pos_iff.2 fun h => by
      have : (widths s g).isEmpty = true := by rw [h]; rfl
      rw [show (widths s g).isEmpty = false from w2] at this
      cases this
end Go.Sh.c12.p11

namespace Go.Sh.c12.p11
/-- What a level loses on its way. -/
def cost (k b : Nat) : Int := if k ≤ b then 384 * ((b : Int) - k) else 768 * ((k : Int) - b)
def IsUp (l : List Int) (n b : Nat) (v : Int) : Prop := (∀ k, k ≤ b → k / n = b / n → l.getD k 0 - cost k b ≤ v) ∧ ∃ k, k ≤ b ∧ k / n = b / n ∧ v = l.getD k 0 - cost k b
def IsSp (l : List Int) (n b : Nat) (v : Int) : Prop := (∀ k, k < l.length → k / n = b / n → l.getD k 0 - cost k b ≤ v) ∧ ∃ k, k < l.length ∧ k / n = b / n ∧ v = l.getD k 0 - cost k b
theorem IsSp.unique {l : List Int} {n b : Nat} {u v : Int} (h1 : IsSp l n b u) (h2 : IsSp l n b v) : u = v := by
  obtain ⟨a1, k, b1, c1, d1⟩ := h1
  obtain ⟨a2, j, b2, c2, d2⟩ := h2
  have := a1 j b2 c2
  have := a2 k b1 c1
  omega
theorem same_pred {n b : Nat} (h : 0 < b % n) : (b - 1) / n = b / n := by
  rcases Nat.eq_zero_or_pos n with rfl | hn
  · simp
  · have h1 := Nat.div_add_mod b n
    have h2 := Nat.mod_lt b hn
    have e : b - 1 = n * (b / n) + (b % n - 1) := by omega
    rw [e, Nat.mul_add_div hn, Nat.div_eq_of_lt (show b % n - 1 < n by omega), Nat.add_zero]
theorem same_succ {n b : Nat} (h : b % n + 1 < n) : (b + 1) / n = b / n := by
  have hn : 0 < n := by omega
  have h1 := Nat.div_add_mod b n
  have e : b + 1 = n * (b / n) + (b % n + 1) := by omega
  rw [e, Nat.mul_add_div hn, Nat.div_eq_of_lt h, Nat.add_zero]
theorem row_first {n b k : Nat} (h : b % n = 0) (hk : k ≤ b) (hs : k / n = b / n) : k = b := by
  have h1 := Nat.div_add_mod b n
  have h2 := Nat.div_add_mod k n
  rw [hs] at h2
  omega
theorem row_last {n b k : Nat} (hn : 0 < n) (h : ¬ b % n + 1 < n) (hs : k / n = b / n) : k ≤ b := by
  have h1 := Nat.div_add_mod b n
  have h2 := Nat.div_add_mod k n
  have h3 := Nat.mod_lt k hn
  have h4 := Nat.mod_lt b hn
  rw [hs] at h2
  omega
theorem row_end {n b len : Nat} (hn : 0 < n) (hl : len % n = 0) (hb : b < len) : b / n * n + n ≤ len := by
  have h1 := Nat.div_add_mod len n
  have h2 : b / n < len / n := (Nat.div_lt_iff_lt_mul hn).2 (by rw [Nat.mul_comm]; omega)
  have h3 := Nat.mul_le_mul_left n (show b / n + 1 ≤ len / n by omega)
  rw [Nat.mul_add] at h3
  rw [Nat.mul_comm]
  omega
theorem IsUp.first {l : List Int} {n b : Nat} (h : b % n = 0) : IsUp l n b (l.getD b 0) :=
  ⟨fun k hk hs => by rw [row_first h hk hs]; unfold cost; simp, b, Nat.le_refl _, rfl, by unfold cost; simp⟩
theorem IsUp.next {l : List Int} {n b : Nat} {v : Int} (h : 0 < b % n) (hb : 0 < b) (hp : IsUp l n (b - 1) v) : IsUp l n b (if v - 384 > l.getD b 0 then v - 384 else l.getD b 0) := by
  have hsame := same_pred h
  obtain ⟨p1, k0, p2, p3, p4⟩ := hp
  refine ⟨fun k hk hs => ?_, ?_⟩
  · by_cases hkb : k = b
    · subst hkb
      have : cost k k = 0 := by unfold cost; simp
      split <;> omega
    · have := p1 k (by omega) (by omega)
      have e : cost k b = cost k (b - 1) + 384 := by
        unfold cost; rw [if_pos (by omega), if_pos (by omega)]; omega
      split <;> omega
  · split
    · refine ⟨k0, by omega, by omega, ?_⟩
      have e : cost k0 b = cost k0 (b - 1) + 384 := by
        unfold cost; rw [if_pos (by omega), if_pos (by omega)]; omega
      omega
    · exact ⟨b, Nat.le_refl _, rfl, by unfold cost; simp⟩
theorem IsSp.last {l : List Int} {n b : Nat} {v : Int} (hn : 0 < n) (hb : b < l.length) (h : ¬ b % n + 1 < n) (hu : IsUp l n b v) : IsSp l n b v := by
  obtain ⟨p1, k0, p2, p3, p4⟩ := hu
  exact ⟨fun k _ hs => p1 k (row_last hn h hs) hs, k0, by omega, p3, p4⟩
theorem IsSp.next {l : List Int} {n b : Nat} {u v : Int} (hb : b < l.length) (h : b % n + 1 < n) (hu : IsUp l n b u) (hv : IsSp l n (b + 1) v) : IsSp l n b (if v - 768 > u then v - 768 else u) := by
  have hsame := same_succ h
  obtain ⟨p1, k0, p2, p3, p4⟩ := hu
  obtain ⟨q1, j0, q2, q3, q4⟩ := hv
  refine ⟨fun k hk hs => ?_, ?_⟩
  · by_cases hkb : k ≤ b
    · have := p1 k hkb hs
      split <;> omega
    · have := q1 k hk (by omega)
      have e : cost k b = cost k (b + 1) + 768 := by
        unfold cost
        rw [if_neg hkb]
        split
        · rw [show k = b + 1 by omega]; omega
        · omega
      split <;> omega
  · split
    · by_cases hj : j0 ≤ b
      · have := p1 j0 hj (by omega)
        have e : cost j0 (b + 1) = cost j0 b + 384 := by
          unfold cost; rw [if_pos (by omega), if_pos hj]; omega
        omega
      · refine ⟨j0, q2, by omega, ?_⟩
        have e : cost j0 b = cost j0 (b + 1) + 768 := by
          unfold cost
          rw [if_neg hj]
          split
          · rw [show j0 = b + 1 by omega]; omega
          · omega
        omega
    · exact ⟨k0, by omega, p3, p4⟩
/-! ### The code's passes -/
def lvOk (x : Int) : Bool := !(decide (x < 0)) && !(decide (15872 < x))
theorem set_getD (l : List Int) (i j : Nat) (y : Int) (h : i < l.length) : (l.set i y).getD j 0 = if j = i then y else l.getD j 0 := by
  by_cases hj : j = i
  · subst hj; simp [List.getD, List.getElem?_set, h]
  · rw [if_neg hj]; simp [List.getD, List.getElem?_set, Ne.symm hj]
theorem f40_raw (m : Nat) (a b : Int) : f73F (m + 1 + 1 + 1) [a, b] = some ((), (if b > (if a > a then a else a) then b else (if a > a then a else a), ())) := by kernel_rfl
theorem f40_two {N : Nat} (hN : 10 ≤ N) (a b : Int) : f73F N [a, b] = some ((), (if b > a then b else a, ())) := by
  obtain ⟨m, rfl⟩ : ∃ m, N = m + 1 + 1 + 1 := ⟨N - 3, by omega⟩
  rw [f40_raw]
  have : (if a > a then a else a) = a := by split <;> rfl
  rw [this]
theorem go_copy : ∀ (r pre : List Int), (∀ x ∈ r, lvOk x = true) → goL (S := List Int) (E := Int) (fun v x => if lvOk x = true then .inl v else .inr 6) r pre = .inl pre
  | [], _, _ => rfl
  | x :: r, pre, h => by simp only [goL, h x (by simp), if_true, Sum.elim_inl]; exact go_copy r pre fun y hy => h y (by simp [hy])
theorem f23l1_eq {N : Nat} {l : List Int} (hl : l.length ≤ 1000) : ∀ (r : List Int) (n i : Nat), l.drop i = r → i ≤ l.length → r.length < n →
    f45l1 N n (l.take i ++ List.replicate r.length 0) l l.length i = if r.all lvOk = true then some (.inl ((l, ()), ((), ()))) else some (.inr ((([] : List Int), ()), ((), (6, ())))) := by
  intro r
  induction r with
  | nil =>
    intro n i h hi hn
    obtain ⟨m, rfl⟩ : ∃ m, n = m + 1 := ⟨n - 1, by omega⟩
    have := ge_of_drop h
    have h1 : ¬ (i : Int) < l.length := by omega
    have h2 : l.take i = l := List.take_of_length_le this
    simp [f45l1, h1, h2]
  | cons x r ih =>
    intro n i h hi hn
    obtain ⟨m, rfl⟩ : ∃ m, n = m + 1 := ⟨n - 1, by omega⟩
    have hlt := lt_of_drop h
    have hr : r.length = l.length - i - 1 := by
      have := congrArg List.length h
      simp at this
      omega
    simp only [List.length_cons] at hn
    have c1 : (i : Int) < l.length := by omega
    have c2 : (i : Int) < ((l.take i ++ List.replicate (r.length + 1) (0 : Int)).length : Int) := by simp; omega
    have hset : (l.take i ++ List.replicate (r.length + 1) (0 : Int)).set i x = l.take (i + 1) ++ List.replicate r.length 0 := by
      rw [take_getD l 0 hlt, getD_of_drop h, List.replicate_succ, List.set_append_right _ _ (by simp; omega)]
      simp [Nat.min_eq_left hi]
    simp only [f45l1, List.length_cons, c1, c2, decide_true, cond_true, show (0 : Int) ≤ i by omega, Bool.and_self, Int.toNat_natCast, getD_of_drop h, hset]
    rw [w64s i (by omega), bindS, ih m (i + 1) (drop_of_drop h) hlt (by omega)]
    unfold lvOk
    by_cases h1 : x < 0
    · simp [h1]
    · by_cases h2 : 15872 < x
      · simp [h1, h2]
      · simp [h1, h2]
theorem f23l3_eq {N : Nat} (hN : 100 ≤ N) {l : List Int} {n : Nat} (hn : 1 ≤ n) (hn' : n ≤ 15) (hl : l.length ≤ 32) (hv : ∀ k, k < l.length → 0 ≤ l.getD k 0 ∧ l.getD k 0 ≤ 15872) : ∀ (k m i : Nat) (u : List Int), i + k = l.length → u.length = l.length → (∀ j, j < i → IsUp l n j (u.getD j 0)) → (∀ j, i ≤ j → u.getD j 0 = l.getD j 0) →
    ∃ r : List Int, f45l3 N (m + k + 1) u n l.length i = some ((r, ()), ((), ())) ∧ r.length = l.length ∧ ∀ j, j < l.length → IsUp l n j (r.getD j 0) := by
  intro k
  induction k with
  | zero =>
    intro m i u h hu hp _
    obtain rfl : i = l.length := by omega
    exact ⟨u, by simp [f45l3], hu, hp⟩
  | succ k ih =>
    intro m i u h hu hp hq
    have ih' := fun u => ih m (i + 1) u (by omega)
    rw [show m + (k + 1) + 1 = (m + k + 1) + 1 by omega]
    generalize m + k + 1 = M at ih' ⊢
    have c1 : (i : Int) < (l.length : Int) := by omega
    have c2 : (i : Int) < (u.length : Int) := by omega
    have c3 : (!((n : Int) == 0)) = true := by
      have : (n : Int) ≠ 0 := by omega
      simpa using this
    have e1 : Int.tmod (i : Int) (n : Int) = ((i % n : Nat) : Int) := rfl
    simp only [f45l3, c1, c2, c3, e1, decide_true, cond_true, show (0 : Int) ≤ i by omega, Bool.and_self, Int.toNat_natCast]
    rw [w64s i (by omega)]
    by_cases hr : 0 < i % n
    · have hi : 0 < i := by
        rcases Nat.eq_zero_or_pos i with rfl | h'
        · simp at hr
        · exact h'
      have c4 : (0 : Int) < ((i % n : Nat) : Int) := by omega
      have hup := hp (i - 1) (by omega)
      have hub : -100000 ≤ u.getD (i - 1) 0 ∧ u.getD (i - 1) 0 ≤ 100000 := by
        obtain ⟨p1, k0, p2, p3, p4⟩ := hup
        have h1 := p1 (i - 1) (Nat.le_refl _) rfl
        have h2 := hv k0 (by omega)
        have h3 := hv (i - 1) (by omega)
        have h4 : cost (i - 1) (i - 1) = 0 := by unfold cost; simp
        have h5 : 0 ≤ cost k0 (i - 1) := by unfold cost; rw [if_pos p2]; omega
        omega
      rw [w64 (n := (i : Int) - 1) (by omega) (by omega), show (i : Int) - 1 = ((i - 1 : Nat) : Int) by omega, Int.toNat_natCast, w64 (n := u.getD (i - 1) 0 - 384) (by omega) (by omega)]
      have c5 : ((i - 1 : Nat) : Int) < (u.length : Int) := by omega
      simp only [c4, c5, decide_true, cond_true, show (0 : Int) ≤ ((i - 1 : Nat) : Int) by omega, Bool.and_self, f40_two (show 10 ≤ N by omega), Option.bind_some, bindS]
      have hnew := IsUp.next hr hi hup
      rw [hq i (Nat.le_refl _)]
      refine ih' _ (by simp [hu]) (fun j hj => ?_) (fun j hj => ?_)
      · rw [set_getD _ _ _ _ (by omega)]
        by_cases hji : j = i
        · rw [if_pos hji, hji]; exact hnew
        · rw [if_neg hji]; exact hp j (by omega)
      · rw [set_getD _ _ _ _ (by omega), if_neg (by omega)]; exact hq j (by omega)
    · have c4 : ¬ (0 : Int) < ((i % n : Nat) : Int) := by omega
      simp only [c4, decide_false, cond_false, bindS]
      refine ih' u hu (fun j hj => ?_) (fun j hj => hq j (by omega))
      by_cases hji : j = i
      · subst hji
        rw [hq j (Nat.le_refl _)]
        exact IsUp.first (by omega)
      · exact hp j (by omega)
theorem f23l5_eq {N : Nat} (hN : 100 ≤ N) {l : List Int} {n : Nat} (hn : 1 ≤ n) (hn' : n ≤ 15) (hl : l.length ≤ 32) (hmod : l.length % n = 0) (hv : ∀ k, k < l.length → 0 ≤ l.getD k 0 ∧ l.getD k 0 ≤ 15872) : ∀ (i m : Nat) (u : List Int), i ≤ l.length → u.length = l.length → (∀ j, i ≤ j → j < l.length → IsSp l n j (u.getD j 0)) → (∀ j, j < i → IsUp l n j (u.getD j 0)) →
    ∃ r : List Int, f45l5 N (m + i + 1) u n ((i : Int) - 1) = some ((r, ()), ((), ())) ∧ r.length = l.length ∧ ∀ j, j < l.length → IsSp l n j (r.getD j 0) := by
  intro i
  induction i with
  | zero =>
    intro m u _ hu hp _
    exact ⟨u, by simp [f45l5], hu, fun j hj => hp j (Nat.zero_le _) hj⟩
  | succ i ih =>
    intro m u h hu hp hq
    have ih' := fun u => ih m u (by omega)
    rw [show m + (i + 1) + 1 = (m + i + 1) + 1 by omega]
    generalize m + i + 1 = M at ih' ⊢
    have hm : ((i + 1 : Nat) : Int) - 1 = (i : Int) := by omega
    have c2 : (i : Int) < (u.length : Int) := by omega
    have c3 : (!((n : Int) == 0)) = true := by
      have : (n : Int) ≠ 0 := by omega
      simpa using this
    have e1 : Int.tmod (i : Int) (n : Int) = ((i % n : Nat) : Int) := rfl
    rw [hm]
    simp only [f45l5, c2, c3, e1, decide_true, cond_true, show (0 : Int) ≤ i by omega, Bool.and_self, Int.toNat_natCast]
    rw [w64 (n := (i : Int) - 1) (by omega) (by omega), w64 (n := (n : Int) - 1) (by omega) (by omega), w64s i (by omega)]
    have hui := hq i (by omega)
    by_cases hr : i % n + 1 < n
    · have c4 : ((i % n : Nat) : Int) < (n : Int) - 1 := by omega
      have hlen : i + 1 < l.length := by
        have h1 := row_end (n := n) (b := i) (len := l.length) (by omega) hmod (by omega)
        have h2 := Nat.div_add_mod i n
        rw [Nat.mul_comm] at h2
        omega
      have hsp := hp (i + 1) (by omega) hlen
      have hub : -100000 ≤ u.getD (i + 1) 0 ∧ u.getD (i + 1) 0 ≤ 100000 := by
        obtain ⟨p1, k0, p2, p3, p4⟩ := hsp
        have h1 := p1 (i + 1) hlen rfl
        have h2 := hv k0 p2
        have h3 := hv (i + 1) hlen
        have h4 : cost (i + 1) (i + 1) = 0 := by unfold cost; simp
        have h5 : 0 ≤ cost k0 (i + 1) := by unfold cost; split <;> omega
        omega
      have c5 : ((i + 1 : Nat) : Int) < (u.length : Int) := by omega
      rw [Int.toNat_natCast, w64 (n := u.getD (i + 1) 0 - 768) (by omega) (by omega)]
      simp only [c4, c5, decide_true, cond_true, show (0 : Int) ≤ ((i + 1 : Nat) : Int) by omega, Bool.and_self, f40_two (show 10 ≤ N by omega), Option.bind_some, bindS]
      have hnew := IsSp.next (by omega) hr hui hsp
      refine ih' _ (by simp [hu]) (fun j hj hjl => ?_) (fun j hj => ?_)
      · rw [set_getD _ _ _ _ (by omega)]
        by_cases hji : j = i
        · rw [if_pos hji, hji]; exact hnew
        · rw [if_neg hji]; exact hp j (by omega) hjl
      · rw [set_getD _ _ _ _ (by omega), if_neg (by omega)]; exact hq j (by omega)
    · have c4 : ¬ ((i % n : Nat) : Int) < (n : Int) - 1 := by omega
      simp only [c4, decide_false, cond_false, bindS]
      refine ih' u hu (fun j hj hjl => ?_) (fun j hj => hq j (by omega))
      by_cases hji : j = i
      · subst hji
        exact IsSp.last (by omega) (by omega) hr hui
      · exact hp j (by omega) hjl
/-- The errors of spreading. -/
def se (l : List Int) (n : Int) : Int := if n < 1 ∨ 15 < n then 1 else if 32 < l.length then 2 else if Int.tmod l.length n ≠ 0 then 4 else if l.all lvOk = true then 0 else 6
theorem lvOk_iff {l : List Int} : l.all lvOk = true ↔ ∀ x ∈ l, 0 ≤ x ∧ x ≤ 15872 := by
  rw [List.all_eq_true]
  unfold lvOk
  constructor
  · intro h x hx
    have := h x hx
    simp at this
    omega
  · intro h x hx
    have := h x hx
    simp
    omega
theorem se_ok {l : List Int} {n : Int} (h : se l n = 0) : ∃ k : Nat, n = k ∧ 1 ≤ k ∧ k ≤ 15 ∧ l.length ≤ 32 ∧ l.length % k = 0 ∧ ∀ x ∈ l, 0 ≤ x ∧ x ≤ 15872 := by
  unfold se at h
  split at h
  · cases h
  · split at h
    · cases h
    · split at h
      · cases h
      · split at h
        · rename_i h1 h2 h3 h4
          refine ⟨n.toNat, by omega, by omega, by omega, by omega, ?_, lvOk_iff.1 h4⟩
          have e : Int.tmod (l.length : Int) n = ((l.length % n.toNat : Nat) : Int) := by
            rw [show n = (n.toNat : Int) by omega]; rfl
          omega
        · cases h
theorem f23_eq {N : Nat} (hN : 2000 ≤ N) (l : List Int) (n : Int) : ∃ r : List Int, f45F N l n = some ((r, ()), ((), (se l n, ()))) ∧ (se l n ≠ 0 → r = []) ∧ (se l n = 0 → r.length = l.length ∧ ∀ j, j < l.length → IsSp l n.toNat j (r.getD j 0)) := by
  unfold f45F se
  by_cases h1 : n < 1
  · exact ⟨[], by simp [h1], by simp, by simp [h1]⟩
  · by_cases h2 : 15 < n
    · exact ⟨[], by simp [h1, h2], by simp, by simp [h2]⟩
    · by_cases h3 : 32 < l.length
      · have : 32 < (l.length : Int) := by omega
        exact ⟨[], by simp [h1, h2, h3, this], by simp, by simp [h1, h2, h3]⟩
      · have c3 : ¬ 32 < (l.length : Int) := by omega
        have c4 : (!(n == 0)) = true := by
          have : n ≠ 0 := by omega
          simpa using this
        obtain ⟨k, rfl⟩ : ∃ k : Nat, n = k := ⟨n.toNat, by omega⟩
        by_cases h4 : Int.tmod l.length k ≠ 0
        · have : (Int.tmod l.length k != 0) = true := by simpa using h4
          exact ⟨[], by simp [h1, h2, h3, c3, c4, this, h4], by simp, by simp [h1, h2, h3, h4]⟩
        · have c5 : (Int.tmod l.length k != 0) = false := by simpa using h4
          have hb : (l.length : Int) * 8 ≤ 140737488355328 := by omega
          have hcp := f23l1_eq (N := N) (l := l) (by omega) l N 0 rfl (Nat.zero_le _) (by omega)
          rw [List.take_zero, List.nil_append, show ((0 : Nat) : Int) = 0 from rfl] at hcp
          by_cases h5 : l.all lvOk = true
          · have hval := lvOk_iff.1 h5
            have hv : ∀ j, j < l.length → 0 ≤ l.getD j 0 ∧ l.getD j 0 ≤ 15872 := fun j hj => hval _ (getD_mem hj)
            have hmod : l.length % k = 0 := by
              have e : Int.tmod (l.length : Int) (k : Int) = ((l.length % k : Nat) : Int) := rfl
              omega
            obtain ⟨m1, hm1⟩ : ∃ m, N = m + l.length + 1 := ⟨N - l.length - 1, by omega⟩
            obtain ⟨u, e1, e2, e3⟩ := f23l3_eq (N := N) (by omega) (n := k) (by omega) (by omega) (show l.length ≤ 32 by omega) hv l.length m1 0 l (by omega) rfl (fun j hj => by omega) (fun j _ => rfl)
            obtain ⟨r, g1, g2, g3⟩ := f23l5_eq (N := N) (by omega) (n := k) (by omega) (by omega) (show l.length ≤ 32 by omega) hmod hv l.length m1 u (Nat.le_refl _) e2 (fun j h1 h2 => by omega) e3
            rw [← hm1, show ((0 : Nat) : Int) = 0 from rfl] at e1
            rw [← hm1] at g1
            refine ⟨r, ?_, by simp [h1, h2, h3, h4, h5], fun _ => ⟨g2, by simpa using g3⟩⟩
            rw [if_neg (by omega), if_neg h3, if_neg h4, if_pos h5]
            simp only [h1, h2, c3, c4, c5, decide_false, cond_false, cond_true, beq_self_eq_true, show (0 : Int) ≤ (l.length : Int) by omega, hb, decide_true, Bool.and_self, Int.toNat_natCast]
            rw [hcp, if_pos h5]
            simp only [Option.bind_some, Sum.elim_inl]
            rw [e1]
            simp only [Option.bind_some]
            rw [e2, w64 (n := (l.length : Int) - 1) (by omega) (by omega), g1]
            rfl
          · refine ⟨[], ?_, by simp, by simp [h1, h2, h3, h4, h5]⟩
            rw [if_neg (by omega), if_neg h3, if_neg h4, if_neg h5]
            simp only [h1, h2, c3, c4, c5, decide_false, cond_false, cond_true, beq_self_eq_true, show (0 : Int) ≤ (l.length : Int) by omega, hb, decide_true, Bool.and_self, Int.toNat_natCast]
            rw [hcp, if_neg h5]
            rfl
end Go.Sh.c12.p11

namespace Go.Sh.c12.p11
theorem f24l1_eq {N : Nat} {l : List Int} (hl : l.length ≤ 1000) (hN : 2000 ≤ N) : f51l1 N N l l.length 0 = if l.all lvOk = true then some (.inl ((), ())) else some (.inr ((([] : List Int), ()), ((), (6, ())))) := by
  have h := range_go (l := l) 0 (f := fun n (_ : Unit) i => f51l1 N n l l.length i) (step := fun _ x => if lvOk x = true then .inl () else .inr (6 : Int)) (fun _ _ => True) (fin := fun _ => some (.inl ((), ()))) (out := fun e => some (.inr ((([] : List Int), ()), ((), (e, ()))))) (fun n i s hi _ => by
    have c1 : (i : Int) < (l.length : Int) := by omega
    refine ⟨?_, fun _ _ => trivial⟩
    simp only [f51l1, c1, decide_true, cond_true, show (0 : Int) ≤ i by omega, Bool.and_self, Int.toNat_natCast]
    rw [w64s i (by omega), bindS]
    unfold lvOk
    by_cases h1 : l.getD i 0 < 0
    · simp only [h1, decide_true, cond_true, Bool.not_true, Bool.false_and]; rfl
    · by_cases h2 : 15872 < l.getD i 0
      · simp only [h1, h2, decide_true, decide_false, cond_true, cond_false, Bool.not_true, Bool.and_false]; rfl
      · simp only [h1, h2, decide_false, cond_false, Bool.not_false, Bool.and_self]; rfl) (fun n s _ => by simp [f51l1]) l N 0 () rfl (Nat.zero_le _) (by omega) trivial
  rw [show ((0 : Nat) : Int) = 0 from rfl] at h
  rw [h, goL_cond]
  split <;> rfl
theorem cost_bound {k b : Nat} (h1 : k ≤ 1000) (h2 : b ≤ 1000) : 0 ≤ cost k b ∧ cost k b ≤ 768000 := by
  unfold cost; split <;> omega
theorem f24l5_eq {N : Nat} {l : List Int} {n b : Nat} (hn : 1 ≤ n) (hn' : n ≤ 15) (hl : l.length ≤ 32) (hmod : l.length % n = 0) (hb : b < l.length) (hv : ∀ k, k < l.length → 0 ≤ l.getD k 0 ∧ l.getD k 0 ≤ 15872) : ∀ (c m k : Nat) (v : Int), k + c = b / n * n + n → b / n * n ≤ k → 0 ≤ v → v ≤ 100000 → (∀ j, b / n * n ≤ j → j < k → l.getD j 0 - cost j b ≤ v) → (v = 0 ∨ ∃ j, b / n * n ≤ j ∧ j < k ∧ v = l.getD j 0 - cost j b) →
    ∃ r : Int, f51l5 N (m + c + 1) l n b v ((b / n * n : Nat) : Int) k = some ((), (r, ())) ∧ IsSp l n b r := by
  have hend := row_end (by omega) hmod hb
  have hbrow : b / n * n ≤ b ∧ b < b / n * n + n := by
    have h1 := Nat.div_add_mod b n
    have h2 := Nat.mod_lt b (show 0 < n by omega)
    rw [Nat.mul_comm] at h1
    omega
  have hrow : ∀ j, b / n * n ≤ j → j < b / n * n + n → j / n = b / n := fun j h1 h2 => by
    have e : j = n * (b / n) + (j - b / n * n) := by rw [Nat.mul_comm]; omega
    rw [e, Nat.mul_add_div (by omega), Nat.div_eq_of_lt (show j - b / n * n < n by omega), Nat.add_zero]
  have hrow' : ∀ j, j / n = b / n → b / n * n ≤ j ∧ j < b / n * n + n := fun j h => by
    have h1 := Nat.div_add_mod j n
    have h2 := Nat.mod_lt j (show 0 < n by omega)
    rw [h, Nat.mul_comm] at h1
    omega
  generalize hR : b / n * n = R at *
  intro c
  induction c with
  | zero =>
    intro m k v h hk h0 h1 hp hq
    obtain rfl : k = R + n := by omega
    have c1 : ¬ ((R + n : Nat) : Int) < (R : Int) + n := by omega
    refine ⟨v, ?_, fun j hj hs => hp j (hrow' j hs).1 (hrow' j hs).2, ?_⟩
    · simp only [f51l5]
      rw [w64 (n := (R : Int) + n) (by omega) (by omega)]
      simp [c1]
    · rcases hq with rfl | ⟨j, a1, a2, a3⟩
      · refine ⟨b, hb, rfl, ?_⟩
        have := hp b hbrow.1 hbrow.2
        have e : cost b b = 0 := by unfold cost; simp
        have := hv b hb
        omega
      · exact ⟨j, by omega, hrow j a1 a2, a3⟩
  | succ c ih =>
    intro m k v h hk h0 h1 hp hq
    have ih' := fun v => ih m (k + 1) v (by omega) (by omega)
    rw [show m + (c + 1) + 1 = (m + c + 1) + 1 by omega]
    generalize m + c + 1 = M at ih' ⊢
    have c1 : (k : Int) < (R : Int) + n := by omega
    have hkl : k < l.length := by omega
    have c2 : (k : Int) < (l.length : Int) := by omega
    have hlk := hv k hkl
    have hcb := cost_bound (k := k) (b := b) (by omega) (by omega)
    have fin : ∃ r : Int, f51l5 N M l n b (if l.getD k 0 - cost k b > v then l.getD k 0 - cost k b else v) (R : Int) ((k + 1 : Nat) : Int) = some ((), (r, ())) ∧ IsSp l n b r := by
      refine ih' _ (by split <;> omega) (by split <;> omega) (fun j a1 a2 => ?_) ?_
      · by_cases hj : j = k
        · subst hj; split <;> omega
        · have := hp j a1 (by omega)
          split <;> omega
      · split
        · exact .inr ⟨k, hk, by omega, rfl⟩
        · rcases hq with rfl | ⟨j, a1, a2, a3⟩
          · exact .inl rfl
          · exact .inr ⟨j, a1, by omega, a3⟩
    simp only [f51l5]
    rw [w64 (n := (R : Int) + n) (by omega) (by omega), w64s k (by omega)]
    simp only [c1, c2, decide_true, cond_true, show (0 : Int) ≤ k by omega, Bool.and_self, Int.toNat_natCast]
    by_cases hkb : k ≤ b
    · have c3 : (k : Int) ≤ b := by omega
      have e : cost k b = 384 * ((b : Int) - k) := by unfold cost; rw [if_pos hkb]
      rw [w64 (n := (b : Int) - k) (by omega) (by omega), w64 (n := 384 * ((b : Int) - k)) (by omega) (by omega), w64 (n := l.getD k 0 - 384 * ((b : Int) - k)) (by omega) (by omega), ← e]
      simp only [c3, decide_true, cond_true, bindS]
      exact fin
    · have c3 : ¬ (k : Int) ≤ b := by omega
      have e : cost k b = 768 * ((k : Int) - b) := by unfold cost; rw [if_neg hkb]
      rw [w64 (n := (k : Int) - b) (by omega) (by omega), w64 (n := 768 * ((k : Int) - b)) (by omega) (by omega), w64 (n := l.getD k 0 - 768 * ((k : Int) - b)) (by omega) (by omega), ← e]
      simp only [c3, decide_false, cond_false, bindS]
      exact fin
theorem f24l3_eq {N : Nat} (hN : 2000 ≤ N) {l : List Int} {n : Nat} (hn : 1 ≤ n) (hn' : n ≤ 15) (hl : l.length ≤ 32) (hmod : l.length % n = 0) (hv : ∀ k, k < l.length → 0 ≤ l.getD k 0 ∧ l.getD k 0 ≤ 15872) : ∀ (k m i : Nat) (u : List Int), i + k = l.length → u.length = i → (∀ j, j < i → IsSp l n j (u.getD j 0)) →
    ∃ r : List Int, f51l3 N (m + k + 1) u l n l.length i = some ((r, ()), ((), ())) ∧ r.length = l.length ∧ ∀ j, j < l.length → IsSp l n j (r.getD j 0) := by
  intro k
  induction k with
  | zero =>
    intro m i u h hu hp
    obtain rfl : i = l.length := by omega
    exact ⟨u, by simp [f51l3], hu, hp⟩
  | succ k ih =>
    intro m i u h hu hp
    have ih' := fun u => ih m (i + 1) u (by omega)
    rw [show m + (k + 1) + 1 = (m + k + 1) + 1 by omega]
    generalize m + k + 1 = M at ih' ⊢
    have c1 : (i : Int) < (l.length : Int) := by omega
    have c3 : (!((n : Int) == 0)) = true := by
      have : (n : Int) ≠ 0 := by omega
      simpa using this
    have e1 : Int.tdiv (i : Int) (n : Int) = ((i / n : Nat) : Int) := rfl
    have hR : i / n * n ≤ i := Nat.div_mul_le_self _ _
    have hq : i / n ≤ i := Nat.div_le_self _ _
    obtain ⟨m1, hm1⟩ : ∃ m, N = m + n + 1 := ⟨N - n - 1, by omega⟩
    obtain ⟨r, g1, g2⟩ := f24l5_eq (N := N) hn hn' hl hmod (show i < l.length by omega) hv n m1 (i / n * n) 0 rfl (Nat.le_refl _) (by omega) (by omega) (fun j a b => by omega) (.inl rfl)
    rw [← hm1] at g1
    have hb : (u.length + 1) * 8 ≤ 140737488355328 := by omega
    simp only [f51l3, c1, c3, e1, decide_true, cond_true]
    rw [w64 (n := ((i / n : Nat) : Int)) (Int.le_trans (by decide) (Int.natCast_nonneg _)) (Int.le_trans (Int.ofNat_le.2 hq) (by omega)), ← Int.natCast_mul, w64 (n := ((i / n * n : Nat) : Int)) (by omega) (by omega), g1]
    simp only [Option.bind_some, List.length_cons, List.length_nil, Nat.zero_add, hb, decide_true, cond_true, bindS]
    rw [w64s i (by omega)]
    refine ih' _ (by simp [hu]) (fun j hj => ?_)
    by_cases hji : j = i
    · subst hji
      have : (List.append u [r]).getD j 0 = r := by simp [List.getD, hu]
      rw [this]; exact g2
    · have : (List.append u [r]).getD j 0 = u.getD j 0 := by simp [List.getD, List.getElem?_append_left (show j < u.length by omega)]
      rw [this]; exact hp j (by omega)
theorem f24_eq {N : Nat} (hN : 2000 ≤ N) (l : List Int) (n : Int) : ∃ r : List Int, f51F N l n = some ((r, ()), ((), (se l n, ()))) ∧ (se l n ≠ 0 → r = []) ∧ (se l n = 0 → r.length = l.length ∧ ∀ j, j < l.length → IsSp l n.toNat j (r.getD j 0)) := by
  unfold f51F se
  by_cases h1 : n < 1
  · exact ⟨[], by simp [h1], by simp, by simp [h1]⟩
  · by_cases h2 : 15 < n
    · exact ⟨[], by simp [h1, h2], by simp, by simp [h2]⟩
    · by_cases h3 : 32 < l.length
      · have : 32 < (l.length : Int) := by omega
        exact ⟨[], by simp [h1, h2, h3, this], by simp, by simp [h1, h2, h3]⟩
      · have c3 : ¬ 32 < (l.length : Int) := by omega
        have c4 : (!(n == 0)) = true := by
          have : n ≠ 0 := by omega
          simpa using this
        obtain ⟨k, rfl⟩ : ∃ k : Nat, n = k := ⟨n.toNat, by omega⟩
        have e : Int.tmod (l.length : Int) (k : Int) = ((l.length % k : Nat) : Int) := rfl
        by_cases h4 : Int.tmod l.length k ≠ 0
        · have c5 : 0 < Int.tmod (l.length : Int) k := by omega
          exact ⟨[], by simp [h1, h2, h3, c3, c4, c5, h4], by simp, by simp [h1, h2, h3, h4]⟩
        · have c5 : ¬ 0 < Int.tmod (l.length : Int) k := by omega
          have hcp := f24l1_eq (N := N) (l := l) (by omega) hN
          by_cases h5 : l.all lvOk = true
          · have hval := lvOk_iff.1 h5
            have hv : ∀ j, j < l.length → 0 ≤ l.getD j 0 ∧ l.getD j 0 ≤ 15872 := fun j hj => hval _ (getD_mem hj)
            have hmod : l.length % k = 0 := by omega
            obtain ⟨m1, hm1⟩ : ∃ m, N = m + l.length + 1 := ⟨N - l.length - 1, by omega⟩
            obtain ⟨r, g1, g2, g3⟩ := f24l3_eq (N := N) hN (n := k) (by omega) (by omega) (show l.length ≤ 32 by omega) hmod hv l.length m1 0 [] (by omega) rfl (fun j hj => by omega)
            rw [← hm1, show ((0 : Nat) : Int) = 0 from rfl] at g1
            refine ⟨r, ?_, by simp [h1, h2, h3, h4, h5], fun _ => ⟨g2, by simpa using g3⟩⟩
            rw [if_neg (by omega), if_neg h3, if_neg h4, if_pos h5]
            simp only [h1, h2, c3, c4, c5, decide_false, cond_false, cond_true]
            rw [hcp, if_pos h5]
            simp only [Option.bind_some, Sum.elim_inl]
            rw [g1]
            rfl
          · refine ⟨[], ?_, by simp, by simp [h1, h2, h3, h4, h5]⟩
            rw [if_neg (by omega), if_neg h3, if_neg h4, if_neg h5]
            simp only [h1, h2, c3, c4, c5, decide_false, cond_false, cond_true]
            rw [hcp, if_neg h5]
            rfl
/-- A spread is what its law says, and nothing else. -/
theorem sp_unique {l r r' : List Int} {n : Nat} (h : r.length = l.length) (h' : r'.length = l.length) (hr : ∀ j, j < l.length → IsSp l n j (r.getD j 0)) (hr' : ∀ j, j < l.length → IsSp l n j (r'.getD j 0)) : r = r' :=
  p10.ext_getD (by omega) fun k hk => (hr k (by omega)).unique (hr' k (by omega))
theorem spread_same (l : List Int) (n : Int) : f45F 200000 l n = f51F 200000 l n := by
  obtain ⟨r, a1, a2, a3⟩ := f23_eq (N := 200000) (by omega) l n
  obtain ⟨r', b1, b2, b3⟩ := f24_eq (N := 200000) (by omega) l n
  have : r = r' := by
    by_cases h : se l n = 0
    · obtain ⟨x1, x2⟩ := a3 h
      obtain ⟨y1, y2⟩ := b3 h
      exact sp_unique x1 y1 x2 y2
    · rw [a2 h, b2 h]
  rw [a1, b1, this]
/-! ### EnergySpreads -/
theorem cost_tri (j k b : Nat) : cost j b ≤ cost j k + cost k b := by
  unfold cost
  repeat' split
  all_goals omega
theorem cost_pos (k b : Nat) : 0 ≤ cost k b := by
  unfold cost; split <;> omega
theorem IsSp.range {l : List Int} {n b : Nat} {v : Int} (h : IsSp l n b v) (hb : b < l.length) (hv : ∀ x ∈ l, 0 ≤ x ∧ x ≤ 15872) : l.getD b 0 ≤ v ∧ v ≤ 15872 := by
  obtain ⟨h1, k, h2, h3, h4⟩ := h
  have := h1 b hb rfl
  have e : cost b b = 0 := by unfold cost; simp
  have := hv _ (getD_mem (d := 0) h2)
  have := cost_pos k b
  omega
theorem IsSp.again {l r : List Int} {n : Nat} (h : r.length = l.length) (hr : ∀ j, j < l.length → IsSp l n j (r.getD j 0)) : ∀ j, j < r.length → IsSp r n j (r.getD j 0) := fun b hb => by
  refine ⟨fun k hk hs => ?_, b, hb, rfl, by unfold cost; simp⟩
  obtain ⟨_, j, h2, h3, h4⟩ := hr k (by omega)
  have := (hr b (by omega)).1 j h2 (by omega)
  have := cost_tri j k b
  omega
theorem IsSp.mono {l l' : List Int} {n b : Nat} {u v : Int} (hl : l'.length = l.length) (hle : ∀ k, k < l.length → l.getD k 0 ≤ l'.getD k 0) (hu : IsSp l n b u) (hv : IsSp l' n b v) : u ≤ v := by
  obtain ⟨_, k, h2, h3, h4⟩ := hu
  have := hv.1 k (by omega) h3
  have := hle k h2
  omega
theorem se_of {l l' : List Int} {n : Int} (h : se l n = 0) (hl : l'.length = l.length) (hv : ∀ x ∈ l', 0 ≤ x ∧ x ≤ 15872) : se l' n = 0 := by
  obtain ⟨k, rfl, h1, h2, h3, h4, _⟩ := se_ok h
  unfold se
  have e : Int.tmod (l'.length : Int) (k : Int) = ((l'.length % k : Nat) : Int) := rfl
  rw [if_neg (by omega), if_neg (by omega), if_neg (by rw [e, hl]; omega), if_pos (lvOk_iff.2 hv)]
end Go.Sh.c12.p11

namespace Go.Sh.c12.p03
def bt (fr : Int) (k : Nat) : Bool := (IntKind.i64.wrap ((BitVec.ofInt 64 (Int.fdiv fr (2 ^ min k 64)) &&& BitVec.ofInt 64 1)).toNat) == 1
def ex1 (fr : Int) (k : Nat) (c m : Int) : Int := if bt fr k = true then Int.fdiv (IntKind.i64.wrap (m * c)) (2 ^ 30) else m
abbrev expT : Ty := .sum (.pair (.pair I .unit) .unit) .unit
abbrev expS (N : Nat) : (Int × (Bool × Unit)) → expT.den → Option (Bool × expT.den) := stepRound fun y o => f79r0d N y (o, ((), ()))
theorem root_at {N : Nat} (hN : 100 ≤ N) {n c : Int} (h0 : 0 ≤ n) (h1 : n ≤ 4611686018427387904) (hc : IsRoot n c) : f95F N n = some ((), (c, ())) ∧ f82F N n = some ((), (c, (0, ()))) := by
  obtain ⟨r, e1, e2⟩ := f42_root hN h0 h1
  obtain ⟨s, e3, e4⟩ := f19_root hN h0 h1
  rw [e1, e3, e2.unique hc, e4.unique hc]
  exact ⟨rfl, rfl⟩
theorem i57_step {N : Nat} (hN : 100 ≤ N) (M : Nat) {c c' fr m : Int} {k : Nat} (h0 : 0 ≤ c) (h1 : c ≤ 2147483648) (hc : IsRoot (c * 1073741824) c') (hk : k < 100) :
    i94l0 N expT (expS N) (M + 1) fr c k (.inl ((m, ()), ())) = i94l0 N expT (expS N) M fr c' ((k : Int) - 1) (.inl ((ex1 fr k c' m, ()), ())) := by
  have a1 : (0 : Int) ≤ k := by omega
  have a2 : ¬ (k : Int) < 0 := by omega
  simp only [i94l0, a1, a2, decide_true, decide_false, cond_true, Bool.not_false]
  rw [w64 (n := c * 1073741824) (by omega) (by omega), (root_at hN (by omega) (by omega) hc).1, w64 (n := (k : Int) - 1) (by omega) (by omega)]
  simp only [Option.bind_some, Int.toNat_natCast, expS, stepRound, f79r0d, f79r0c, ex1]
  rw [show (IntKind.i64.wrap ((BitVec.ofInt 64 (Int.fdiv fr (2 ^ min k 64)) &&& BitVec.ofInt 64 1)).toNat == 1) = bt fr k from rfl]
  cases bt fr k <;> simp [Option.bind_some]
theorem f31_step {N : Nat} (hN : 100 ≤ N) (M : Nat) {c c' t m : Int} {k : Nat} (h0 : 0 ≤ c) (h1 : c ≤ 2147483648) (hc : IsRoot (c * 1073741824) c') (hk : k ≤ 7) :
    f54l0 N (M + 1) t m c (8 - (k : Int)) = f54l0 N M t (ex1 (Int.tmod t 256) k c' m) c' (8 - (k : Int) + 1) := by
  have a1 : 8 - (k : Int) ≤ 8 := by omega
  have a2 : ¬ 8 - (8 - (k : Int)) < 0 := by omega
  have hr := (root_at hN (n := c * 1073741824) (by omega) (by omega) hc).2
  simp only [f54l0, a1, decide_true, cond_true]
  rw [show (2 : Int) ^ 30 = 1073741824 from rfl, w64 (n := c * 1073741824) (by omega) (by omega), hr, w64 (n := 8 - (8 - (k : Int))) (by omega) (by omega), w64 (n := 8 - (k : Int) + 1) (by omega) (by omega)]
  simp only [a2, decide_false, Bool.not_false, cond_true, Option.bind_some, ex1]
  rw [show Int.toNat (8 - (8 - (k : Int))) = k by omega, show (IntKind.i64.wrap ((BitVec.ofInt 64 (Int.fdiv (Int.tmod t 256) (2 ^ min k 64)) &&& BitVec.ofInt 64 1)).toNat == 1) = bt (Int.tmod t 256) k from rfl, show (2 : Int) ^ 30 = 1073741824 from rfl]
  cases bt (Int.tmod t 256) k <;> simp
/-- The fraction's power. -/
def exm (fr : Int) : Int := ex1 fr 0 1076653032 (ex1 fr 1 1079572135 (ex1 fr 2 1085434105 (ex1 fr 3 1097253707 (ex1 fr 4 1121280435 (ex1 fr 5 1170923761 (ex1 fr 6 1276901416 (ex1 fr 7 1518500249 1073741824)))))))
theorem ro1 : IsRoot (2147483648 * 1073741824) 1518500249 := by unfold IsRoot; omega
theorem ro2 : IsRoot (1518500249 * 1073741824) 1276901416 := by unfold IsRoot; omega
theorem ro3 : IsRoot (1276901416 * 1073741824) 1170923761 := by unfold IsRoot; omega
theorem ro4 : IsRoot (1170923761 * 1073741824) 1121280435 := by unfold IsRoot; omega
theorem ro5 : IsRoot (1121280435 * 1073741824) 1097253707 := by unfold IsRoot; omega
theorem ro6 : IsRoot (1097253707 * 1073741824) 1085434105 := by unfold IsRoot; omega
theorem ro7 : IsRoot (1085434105 * 1073741824) 1079572135 := by unfold IsRoot; omega
theorem ro8 : IsRoot (1079572135 * 1073741824) 1076653032 := by unfold IsRoot; omega
theorem i57_all {N : Nat} (hN : 100 ≤ N) (fr : Int) : i94F N expT (expS N) fr (.inl ((1073741824, ()), ())) = some (.inl ((exm fr, ()), ())) := by
  obtain ⟨M, hM⟩ : ∃ M, N = M + 1 + 1 + 1 + 1 + 1 + 1 + 1 + 1 + 1 := ⟨N - 9, by omega⟩
  have hh : i94l0 N expT (expS N) N fr 2147483648 7 (.inl ((1073741824, ()), ())) = some (.inl ((exm fr, ()), ()), .inl ((), ())) := by
    conv => lhs; arg 4; rw [hM]
    rw [show (7 : Int) = ((7 : Nat) : Int) from rfl, i57_step hN _ (by omega) (by omega) ro1 (by omega), show ((7 : Nat) : Int) - 1 = ((6 : Nat) : Int) from rfl, i57_step hN _ (by omega) (by omega) ro2 (by omega), show ((6 : Nat) : Int) - 1 = ((5 : Nat) : Int) from rfl, i57_step hN _ (by omega) (by omega) ro3 (by omega), show ((5 : Nat) : Int) - 1 = ((4 : Nat) : Int) from rfl, i57_step hN _ (by omega) (by omega) ro4 (by omega), show ((4 : Nat) : Int) - 1 = ((3 : Nat) : Int) from rfl, i57_step hN _ (by omega) (by omega) ro5 (by omega), show ((3 : Nat) : Int) - 1 = ((2 : Nat) : Int) from rfl, i57_step hN _ (by omega) (by omega) ro6 (by omega), show ((2 : Nat) : Int) - 1 = ((1 : Nat) : Int) from rfl, i57_step hN _ (by omega) (by omega) ro7 (by omega), show ((1 : Nat) : Int) - 1 = ((0 : Nat) : Int) from rfl, i57_step hN _ (by omega) (by omega) ro8 (by omega)]
    simp [i94l0, exm]
  unfold i94F
  rw [hh]
  rfl
theorem f31_all {N : Nat} (hN : 100 ≤ N) (t : Int) : f54l0 N N t 1073741824 2147483648 1 = some ((), (exm (Int.tmod t 256), ())) := by
  obtain ⟨M, hM⟩ : ∃ M, N = M + 1 + 1 + 1 + 1 + 1 + 1 + 1 + 1 + 1 := ⟨N - 9, by omega⟩
  conv => lhs; arg 2; rw [hM]
  rw [show (1 : Int) = 8 - ((7 : Nat) : Int) from rfl, f31_step hN _ (by omega) (by omega) ro1 (by omega), show 8 - ((7 : Nat) : Int) + 1 = 8 - ((6 : Nat) : Int) from rfl, f31_step hN _ (by omega) (by omega) ro2 (by omega), show 8 - ((6 : Nat) : Int) + 1 = 8 - ((5 : Nat) : Int) from rfl, f31_step hN _ (by omega) (by omega) ro3 (by omega), show 8 - ((5 : Nat) : Int) + 1 = 8 - ((4 : Nat) : Int) from rfl, f31_step hN _ (by omega) (by omega) ro4 (by omega), show 8 - ((4 : Nat) : Int) + 1 = 8 - ((3 : Nat) : Int) from rfl, f31_step hN _ (by omega) (by omega) ro5 (by omega), show 8 - ((3 : Nat) : Int) + 1 = 8 - ((2 : Nat) : Int) from rfl, f31_step hN _ (by omega) (by omega) ro6 (by omega), show 8 - ((2 : Nat) : Int) + 1 = 8 - ((1 : Nat) : Int) from rfl, f31_step hN _ (by omega) (by omega) ro7 (by omega), show 8 - ((1 : Nat) : Int) + 1 = 8 - ((0 : Nat) : Int) from rfl, f31_step hN _ (by omega) (by omega) ro8 (by omega)]
  simp [f54l0, exm]
/-- The 256 fractions. -/
theorem exm_all : ((List.range 256).all fun n => decide (1073741824 ≤ exm n) && decide (exm n < 2147483648) && (n == 255 || decide (exm n ≤ exm ((n : Int) + 1)))) = true := by decide +kernel
theorem exm_zero : exm 0 = 1073741824 := by decide +kernel
theorem exm_ok {n : Nat} (h : n < 256) : 1073741824 ≤ exm n ∧ exm n < 2147483648 ∧ (n < 255 → exm n ≤ exm ((n : Int) + 1)) := by
  have := List.all_eq_true.1 exm_all n (List.mem_range.2 h)
  simp only [Bool.and_eq_true, Bool.or_eq_true, decide_eq_true_eq, beq_iff_eq] at this
  exact ⟨this.1.1, this.1.2, fun hn => by rcases this.2 with h | h <;> omega⟩
theorem chain_le {v : Nat → Int} {n : Nat} (h : ∀ i, i < n → v i ≤ v (i + 1)) : ∀ (k i : Nat), i + k ≤ n → v i ≤ v (i + k) := by
  intro k
  induction k with
  | zero => intro i _; exact Int.le_refl _
  | succ k ih =>
    intro i hi
    exact Int.le_trans (ih i (by omega)) (h (i + k) (by omega))
theorem exm_le {a b : Nat} (h : a ≤ b) (hb : b < 256) : exm a ≤ exm b := by
  have := chain_le (v := fun n => exm n) (n := 255) (fun i hi => (exm_ok (show i < 256 by omega)).2.2 hi) (b - a) a (by omega)
  rw [show a + (b - a) = b by omega] at this
  exact this
def expv (t : Nat) : Int := exm ((t % 256 : Nat) : Int) * 2 ^ (t / 256) / 2 ^ 30
theorem expv_low {x : Int} {e : Nat} (h : e ≤ 30) : x * 2 ^ e / 2 ^ 30 = x / 2 ^ (30 - e) := by
  rw [show (2 : Int) ^ 30 = 2 ^ (30 - e) * 2 ^ e by rw [← Int.pow_add]; congr 1; omega]
  exact Int.mul_ediv_mul_of_pos_left _ _ (pow2 e)
theorem expv_high {x : Int} {e : Nat} (h : 30 ≤ e) : x * 2 ^ e / 2 ^ 30 = x * 2 ^ (e - 30) := by
  rw [show (2 : Int) ^ e = 2 ^ (e - 30) * 2 ^ 30 by rw [← Int.pow_add]; congr 1; omega, ← Int.mul_assoc]
  exact Int.mul_ediv_cancel _ (by decide)
theorem expv_le {a b : Nat} (h : a ≤ b) : expv a ≤ expv b := by
  unfold expv
  refine Int.ediv_le_ediv (by decide) ?_
  obtain ⟨a1, a2, _⟩ := exm_ok (show a % 256 < 256 by omega)
  obtain ⟨b1, b2, _⟩ := exm_ok (show b % 256 < 256 by omega)
  by_cases hc : a / 256 = b / 256
  · rw [hc]
    exact Int.mul_le_mul_of_nonneg_right (exm_le (by omega) (by omega)) (Int.le_of_lt (pow2 _))
  · have h1 := pow2_le (show a / 256 + 1 ≤ b / 256 by omega)
    have h2 := pow2_s (a / 256)
    have h3 := pow2 (a / 256)
    have h4 : exm ((a % 256 : Nat) : Int) * 2 ^ (a / 256) ≤ 2147483648 * 2 ^ (a / 256) := Int.mul_le_mul_of_nonneg_right (by omega) (by omega)
    have h5 : 1073741824 * 2 ^ (b / 256) ≤ exm ((b % 256 : Nat) : Int) * 2 ^ (b / 256) := Int.mul_le_mul_of_nonneg_right (by omega) (by omega)
    omega
theorem expv_pow (e : Nat) : expv (256 * e) = 2 ^ e := by
  unfold expv
  rw [show 256 * e % 256 = 0 by omega, show 256 * e / 256 = e by omega, show ((0 : Nat) : Int) = 0 from rfl, exm_zero, show (2 : Int) ^ 30 = 1073741824 from rfl]
  exact Int.mul_ediv_cancel_left _ (by decide)
theorem f30r0_eq {N : Nat} (hN : 100 ≤ N) (fr : Int) : f79r0F N ((), (fr, ())) 1073741824 = some (((exm fr, ()), ()), ()) := by
  unfold f79r0F
  rw [show (((), (fr, ())) : Unit × (Int × Unit)).2.1 = fr from rfl]
  exact (congrArg (fun z => Option.bind z (finish f79r0p f79r0x)) (i57_all hN fr)).trans rfl
theorem f30_exp {N : Nat} (hN : 100 ≤ N) {t : Nat} (h : t ≤ 15871) : f79F N t = some ((), (expv t, (0, ()))) ∧ f54F N t = some ((), (expv t, (0, ()))) := by
  have c1 : ¬ (t : Int) < 0 := by omega
  have c2 : ¬ 15871 < (t : Int) := by omega
  have e1 : Int.tmod (t : Int) 256 = ((t % 256 : Nat) : Int) := rfl
  have e2 : Int.tdiv (t : Int) 256 = ((t / 256 : Nat) : Int) := rfl
  obtain ⟨a1, a2, _⟩ := exm_ok (show t % 256 < 256 by omega)
  unfold f79F f54F f91F
  rw [f31_all hN]
  simp only [c1, c2, decide_false, cond_false, Option.bind_some]
  rw [e1, e2, f30r0_eq hN]
  simp only [Option.bind_some]
  rw [w64 (n := ((t / 256 : Nat) : Int)) (by omega) (by omega), w64 (n := ((t / 256 : Nat) : Int) - 30) (by omega) (by omega), w64 (n := 30 - ((t / 256 : Nat) : Int)) (by omega) (by omega)]
  by_cases hc : 30 < ((t / 256 : Nat) : Int)
  · have c3 : ¬ ((t / 256 : Nat) : Int) ≤ 30 := by omega
    have c4 : ¬ ((t / 256 : Nat) : Int) - 30 < 0 := by omega
    simp only [hc, c3, c4, decide_true, decide_false, cond_true, cond_false, Bool.not_false]
    rw [show min (Int.toNat (((t / 256 : Nat) : Int) - 30)) 64 = t / 256 - 30 by omega]
    have h1 := pow2_le (show t / 256 - 30 ≤ 31 by omega)
    have h2 := pow2 (t / 256 - 30)
    have h3 := mul_mono (show exm ((t % 256 : Nat) : Int) ≤ 2147483647 by omega) h1 (by omega) (by omega)
    have h4 : 0 ≤ exm ((t % 256 : Nat) : Int) * 2 ^ (t / 256 - 30) := Int.mul_nonneg (by omega) (by omega)
    rw [w64 (n := exm ((t % 256 : Nat) : Int) * 2 ^ (t / 256 - 30)) (by omega) (by omega), expv, expv_high (by omega)]
    exact ⟨rfl, rfl⟩
  · have c3 : ((t / 256 : Nat) : Int) ≤ 30 := by omega
    have c4 : ¬ 30 - ((t / 256 : Nat) : Int) < 0 := by omega
    simp only [hc, c3, c4, decide_true, decide_false, cond_true, cond_false, Bool.not_false]
    rw [show min (Int.toNat (30 - ((t / 256 : Nat) : Int))) 64 = 30 - t / 256 by omega, fdiv2, expv, expv_low (by omega)]
    exact ⟨rfl, rfl⟩
theorem f30_err (N : Nat) {t : Int} (h : t < 0 ∨ 15871 < t) : f79F N t = some ((), (0, (6, ()))) ∧ f54F N t = some ((), (0, (6, ()))) := by
  unfold f79F f54F
  by_cases c1 : t < 0
  · simp [c1]
  · have c2 : 15871 < t := by omega
    simp [c1, c2]
/-! ### Steps -/
theorem log_same (n : Int) : f76F 200000 n = f81F 200000 n ∧ ∃ y, f76F 200000 n = some y := by
  by_cases h : n < 1 ∨ 4611686018427387904 < n
  · obtain ⟨a, b⟩ := f28_err 200000 h
    exact ⟨by rw [a, b], _, a⟩
  · obtain ⟨e, _, _, a, b⟩ := f28_log (N := 200000) (n := n) (by omega) (by omega) (by omega)
    exact ⟨by rw [a, b], _, a⟩
theorem exp_same (n : Int) : f79F 200000 n = f54F 200000 n ∧ ∃ y, f79F 200000 n = some y := by
  by_cases h : n < 0 ∨ 15871 < n
  · obtain ⟨a, b⟩ := f30_err 200000 h
    exact ⟨by rw [a, b], _, a⟩
  · obtain ⟨t, rfl⟩ : ∃ t : Nat, n = t := ⟨n.toNat, by omega⟩
    obtain ⟨a, b⟩ := f30_exp (N := 200000) (t := t) (by omega) (by omega)
    exact ⟨by rw [a, b], _, a⟩
/-- What never falls, the error aside. -/
def Rises (f : Int → Option (Unit × (Int × (Int × Unit)))) : Prop := ∀ a b : Int, a ≤ b → ∃ x e y e', f a = some ((), (x, (e, ()))) ∧ f b = some ((), (y, (e', ()))) ∧ (e = 0 → e' = 0 → x ≤ y)
theorem rises_of {f : Int → Option (Unit × (Int × (Int × Unit)))} {lo hi : Int} (herr : ∀ n, n < lo ∨ hi < n → f n = some ((), (0, (6, ())))) (hok : ∀ a b : Int, a ≤ b → lo ≤ a → b ≤ hi → ∃ x y, f a = some ((), (x, (0, ()))) ∧ f b = some ((), (y, (0, ()))) ∧ x ≤ y) : Rises f := by
  intro a b h
  by_cases ha : a < lo ∨ hi < a
  · by_cases hb : b < lo ∨ hi < b
    · exact ⟨0, 6, 0, 6, herr a ha, herr b hb, fun h => by cases h⟩
    · obtain ⟨x, y, e1, _, _⟩ := hok b b (by omega) (by omega) (by omega)
      exact ⟨0, 6, x, 0, herr a ha, e1, fun h => by cases h⟩
  · by_cases hb : b < lo ∨ hi < b
    · obtain ⟨x, y, e1, _, _⟩ := hok a a (by omega) (by omega) (by omega)
      exact ⟨x, 0, 0, 6, e1, herr b hb, fun _ h => by cases h⟩
    · obtain ⟨x, y, e1, e2, e3⟩ := hok a b h (by omega) (by omega)
      exact ⟨x, 0, y, 0, e1, e2, fun _ _ => e3⟩
theorem log_rises : Rises (f76F 200000) := rises_of (lo := 1) (hi := 4611686018427387904) (fun n h => (f28_err 200000 h).1) fun a b h ha hb => by
  obtain ⟨e, _, a1, a2, _⟩ := f28_log (N := 200000) (n := a) (by omega) (by omega) (by omega)
  obtain ⟨f, _, b1, b2, _⟩ := f28_log (N := 200000) (n := b) (by omega) (by omega) (by omega)
  exact ⟨_, _, a2, b2, lg_le a1 b1 h⟩
theorem exp_rises : Rises (f79F 200000) := rises_of (lo := 0) (hi := 15871) (fun n h => (f30_err 200000 h).1) fun a b h ha hb => by
  obtain ⟨s, rfl⟩ : ∃ t : Nat, a = t := ⟨a.toNat, by omega⟩
  obtain ⟨t, rfl⟩ : ∃ t : Nat, b = t := ⟨b.toNat, by omega⟩
  exact ⟨_, _, (f30_exp (by omega) (by omega)).1, (f30_exp (by omega) (by omega)).1, expv_le (by omega)⟩
theorem rise_bif {α : Type} {f : Int → Option (Unit × (Int × (Int × Unit)))} (h : Rises f) {a b : Int} (hab : a ≤ b) {z r : Option α} : ((f a).bind fun y1 => (f b).bind fun y2 => bif (y1.2.2.1 == 0) then (bif (y2.2.2.1 == 0) then (bif (decide (y2.2.1 < y1.2.1)) then z else r) else r) else r) = r := by
  obtain ⟨x, e, y, e', h1, h2, h3⟩ := h a b hab
  rw [h1, h2]
  simp only [Option.bind_some]
  by_cases c1 : e = 0
  · by_cases c2 : e' = 0
    · have : ¬ y < x := by have := h3 c1 c2; omega
      simp [c1, c2, this]
    · have : (e' == 0) = false := by simpa using c2
      simp [this]
  · have : (e == 0) = false := by simpa using c1
    simp [this]
end Go.Sh.c12.p03

namespace Go.Sh.c12

abbrev isDiv := p10.isDiv
abbrev order := p10.order
abbrev widths := p10.widths
abbrev bandOf := p10.bandOf
abbrev sp := p11.sp
abbrev bnds := p11.bnds
abbrev gath := p11.gath
abbrev enOk := p11.enOk
theorem f11_eq {N : Nat} (hN : 2000 ≤ N) {ls : List (List Int)} (hl : ls.length ≤ 10) : f11F N ls = some ((), (ls.all (fun l => decide (l.length ≤ 300)), ())) := by
  have h := range_go (l := ls) [] (f := fun n (_ : Unit) i => f11l0 N n ls ls.length i) (step := fun _ x => if (fun l : List Int => decide (l.length ≤ 300)) x = true then .inl () else .inr ()) (fun _ _ => True) (fin := fun _ => some (.inl ((), ()))) (out := fun _ => some (.inr ((), (false, ())))) (fun n i s hi _ => by
    have c1 : (i : Int) < (ls.length : Int) := by omega
    refine ⟨?_, fun _ _ => trivial⟩
    simp only [f11l0, c1, decide_true, cond_true, show (0 : Int) ≤ i by omega, Bool.and_self, Int.toNat_natCast]
    rw [w64s i (by omega), bindS]
    by_cases h1 : (ls.getD i []).length ≤ 300
    · have c2 : ¬ 300 < ((ls.getD i []).length : Int) := by omega
      simp only [h1, c2, decide_true, decide_false, cond_false, if_true]; rfl
    · have c2 : 300 < ((ls.getD i []).length : Int) := by omega
      simp only [h1, c2, decide_true, decide_false, cond_true]; rfl) (fun n s _ => by simp [f11l0]) ls N 0 () rfl (Nat.zero_le _) (by omega) trivial
  rw [show ((0 : Nat) : Int) = 0 from rfl] at h
  unfold f11F
  rw [h, goL_cond]
  cases ls.all (fun l => decide (l.length ≤ 300)) <;> rfl
/-! ### Energies that are allowed -/
theorem f55l2_eq {N : Nat} {l : List Int} (hl : l.length ≤ 1000) (hN : 2000 ≤ N) : f55l2 N N l l.length 0 = if l.all enOk = true then some (.inl ((), ())) else some (.inr ((), (false, ()))) := by
  have h := range_go (l := l) 0 (f := fun n (_ : Unit) i => f55l2 N n l l.length i) (step := fun _ x => if enOk x = true then .inl () else .inr ()) (fun _ _ => True) (fin := fun _ => some (.inl ((), ()))) (out := fun _ => some (.inr ((), (false, ())))) (fun n i s hi _ => by
    have c1 : (i : Int) < (l.length : Int) := by omega
    refine ⟨?_, fun _ _ => trivial⟩
    simp only [f55l2, c1, decide_true, cond_true, show (0 : Int) ≤ i by omega, Bool.and_self, Int.toNat_natCast]
    rw [w64s i (by omega), bindS]
    unfold enOk p11.enOk
    by_cases h1 : l.getD i 0 < 0
    · simp only [h1, decide_true, cond_true, Bool.not_true, Bool.false_and]; rfl
    · by_cases h2 : 72057594037927936 < l.getD i 0
      · simp only [h1, h2, decide_true, decide_false, cond_true, cond_false, Bool.not_true, Bool.and_false]; rfl
      · simp only [h1, h2, decide_false, cond_false, Bool.not_false, Bool.and_self]; rfl) (fun n s _ => by simp [f55l2]) l N 0 () rfl (Nat.zero_le _) (by omega) trivial
  rw [show ((0 : Nat) : Int) = 0 from rfl] at h
  rw [h, goL_cond]
  split <;> rfl
theorem f55_eq {N : Nat} (hN : 2000 ≤ N) {a b : List Int} (ha : a.length ≤ 1000) (hb : b.length ≤ 1000) : f55F N [a, b] = some ((), (a.all enOk && b.all enOk, ())) := by
  have h := range_go (l := [a, b]) [] (f := fun n (_ : Unit) i => f55l0 N n [a, b] (([a, b] : List (List Int)).length : Int) i) (step := fun _ x => if (fun l : List Int => l.all enOk) x = true then .inl () else .inr ()) (fun _ _ => True) (fin := fun _ => some (.inl ((), ()))) (out := fun _ => some (.inr ((), (false, ())))) (fun n i s hi _ => by
    have c1 : (i : Int) < (([a, b] : List (List Int)).length : Int) := by omega
    have hx : (([a, b] : List (List Int)).getD i []).length ≤ 1000 := by
      have := getD_mem (d := []) hi
      simp only [List.mem_cons, List.not_mem_nil, or_false] at this
      rcases this with h | h <;> rw [h] <;> assumption
    have hi' : i < 2 := hi
    refine ⟨?_, fun _ _ => trivial⟩
    simp only [f55l0, c1, decide_true, cond_true, show (0 : Int) ≤ i by omega, Bool.and_self, Int.toNat_natCast]
    rw [w64s i (by omega), bindS, f55l2_eq hx hN]
    by_cases hc : (([a, b] : List (List Int)).getD i []).all enOk = true
    · rw [if_pos hc, if_pos hc]; rfl
    · rw [if_neg hc, if_neg hc]; rfl) (fun n s _ => by simp [f55l0]) [a, b] N 0 () rfl (Nat.zero_le _) (by simp; omega) trivial
  rw [show ((0 : Nat) : Int) = 0 from rfl] at h
  unfold f55F
  rw [h, goL_cond]
  simp only [List.all_cons, List.all_nil, Bool.and_true]
  cases a.all enOk <;> cases b.all enOk <;> rfl
theorem f32_eq {N : Nat} {l : List Int} (hl : l.length ≤ 1000) (hN : 2000 ≤ N) : f32F N l = some ((), (l.all enOk, ())) := by
  have h := range_go (l := l) 0 (f := fun n (_ : Unit) i => f32l0 N n l l.length i) (step := fun _ x => if enOk x = true then .inl () else .inr ()) (fun _ _ => True) (fin := fun _ => some (.inl ((), ()))) (out := fun _ => some (.inr ((), (false, ())))) (fun n i s hi _ => by
    have c1 : (i : Int) < (l.length : Int) := by omega
    refine ⟨?_, fun _ _ => trivial⟩
    simp only [f32l0, c1, decide_true, cond_true, show (0 : Int) ≤ i by omega, Bool.and_self, Int.toNat_natCast]
    rw [w64s i (by omega), bindS]
    unfold enOk p11.enOk
    by_cases h1 : l.getD i 0 < 0
    · simp only [h1, decide_true, cond_true, Bool.not_true, Bool.false_and]; rfl
    · by_cases h2 : 72057594037927936 < l.getD i 0
      · simp only [h1, h2, decide_true, decide_false, cond_true, cond_false, Bool.not_true, Bool.and_false]; rfl
      · simp only [h1, h2, decide_false, cond_false, Bool.not_false, Bool.and_self]; rfl) (fun n s _ => by simp [f32l0]) l N 0 () rfl (Nat.zero_le _) (by omega) trivial
  rw [show ((0 : Nat) : Int) = 0 from rfl] at h
  unfold f32F
  rw [h, goL_cond]
  cases l.all enOk <;> rfl
/-! ### What is heard -/
def hd (a lim : List Int) : List Bool := (List.range a.length).map fun b => decide (lim.getD b 0 < a.getD b 0)
theorem hd_len (a lim : List Int) : (hd a lim).length = a.length := by simp [hd]
theorem hd_at {a lim : List Int} {b : Nat} (h : b < a.length) : (hd a lim).getD b false = decide (lim.getD b 0 < a.getD b 0) := by
  simp [hd, List.getD, h]
theorem f24l1_eq {N : Nat} {a lim : List Int} (hl : lim.length = a.length) (ha : a.length ≤ 1000) : ∀ (k m i : Nat), i + k = a.length → f24l1 N (m + k + 1) ((List.range i).map fun b => decide (lim.getD b 0 < a.getD b 0)) lim a a.length i = some ((hd a lim, ()), ((), ())) := by
  intro k
  induction k with
  | zero =>
    intro m i h
    obtain rfl : i = a.length := by omega
    simp [f24l1, hd]
  | succ k ih =>
    intro m i h
    have ih' := ih m (i + 1) (by omega)
    rw [show m + (k + 1) + 1 = (m + k + 1) + 1 by omega]
    generalize m + k + 1 = M at ih' ⊢
    have c1 : (i : Int) < (a.length : Int) := by omega
    have c2 : (i : Int) < (lim.length : Int) := by omega
    have hb : (i + 1) * 1 ≤ 140737488355328 := by omega
    rw [List.range_succ, List.map_append] at ih'
    simp only [f24l1, c1, c2, decide_true, cond_true, show (0 : Int) ≤ i by omega, Bool.and_self, Int.toNat_natCast, List.length_map, List.length_range, List.length_cons, List.length_nil, Nat.zero_add, hb]
    rw [w64s i (by omega), bindS]
    exact ih'
/-- The error of a list of limits beside a list of energies. -/
theorem f24_eq {N : Nat} (hN : 2000 ≤ N) {a lim : List Int} (hl : lim.length = a.length) (ha : a.length ≤ 32) : f24F N a lim = some ((if (a.all enOk && lim.all enOk) = true then hd a lim else [], ()), ((), (if (a.all enOk && lim.all enOk) = true then 0 else 6, ()))) := by
  have c1 : ¬ 32 < (if (lim.length : Int) > (a.length : Int) then (lim.length : Int) else (a.length : Int)) := by split <;> omega
  have c2 : ((a.length : Int) != (lim.length : Int)) = false := by rw [hl]; exact bne_self_eq_false _
  unfold f24F
  simp only [c1, c2, decide_false, cond_false]
  rw [f55_eq hN (by omega) (by omega)]
  cases he : (a.all enOk && lim.all enOk) with
  | false => simp
  | true =>
    obtain ⟨m, hm⟩ : ∃ m, N = m + a.length + 1 := ⟨N - a.length - 1, by omega⟩
    have := f24l1_eq (N := N) hl (by omega) a.length m 0 (by omega)
    rw [← hm, show ((0 : Nat) : Int) = 0 from rfl, List.range_zero, List.map_nil] at this
    simp [this]
/-! ### The mask -/
def mk : List Bool → List Int → List Int → List Int
  | h :: hs, w :: ws, l => (if h = true then l.take w.toNat else List.replicate w.toNat 0) ++ mk hs ws (l.drop w.toNat)
  | _, _, _ => []
theorem mk_len : ∀ (hs : List Bool) (ws l : List Int), hs.length = ws.length → (∀ x ∈ ws, 0 ≤ x) → ws.sum ≤ l.length → ((mk hs ws l).length : Int) = ws.sum
  | [], [], l, _, _, _ => by simp [mk]
  | h :: hs, w :: ws, l, he, hw, hs' => by
    have h1 := hw w (by simp)
    have h2 := p11.sum_nonneg (r := ws) fun x hx => hw x (by simp [hx])
    simp only [List.sum_cons] at hs' ⊢
    have ih := mk_len hs ws (l.drop w.toNat) (by simpa using he) (fun x hx => hw x (by simp [hx])) (by simp; omega)
    simp only [mk, List.length_append]
    split
    · simp only [List.length_take]; omega
    · simp only [List.length_replicate]; omega
  | [], w :: ws, _, he, _, _ => by simp at he
  | h :: hs, [], _, he, _, _ => by simp at he
theorem mk_at : ∀ (hs : List Bool) (ws l : List Int) (k : Nat), hs.length = ws.length → (∀ x ∈ ws, 0 ≤ x) → ws.sum ≤ l.length → (k : Int) < ws.sum → (mk hs ws l).getD k 0 = if hs.getD (bandOf ws k) false = true then l.getD k 0 else 0
  | [], [], l, k, _, _, _, hk => by simp at hk; omega
  | h :: hs, w :: ws, l, k, he, hw, hs', hk => by
    have h1 := hw w (by simp)
    have h2 := p11.sum_nonneg (r := ws) fun x hx => hw x (by simp [hx])
    simp only [List.sum_cons] at hs' hk
    have hpl : (if h = true then l.take w.toNat else List.replicate w.toNat 0).length = w.toNat := by
      split
      · simp; omega
      · simp
    by_cases hkw : (k : Int) < w
    · have hb : bandOf (w :: ws) k = 0 := by simp [bandOf, p10.bandOf, hkw]
      rw [hb]
      simp only [mk]
      have e : ((if h = true then l.take w.toNat else List.replicate w.toNat 0) ++ mk hs ws (l.drop w.toNat)).getD k 0 = (if h = true then l.take w.toNat else List.replicate w.toNat 0).getD k 0 := by
        simp only [List.getD]
        rw [List.getElem?_append_left (by omega)]
      rw [e]
      cases h
      · simp [List.getD, List.getElem?_replicate]; split <;> rfl
      · have : k < w.toNat := by omega
        simp [List.getD, List.getElem?_take, this]
    · have hb : bandOf (w :: ws) k = bandOf ws ((k - w.toNat : Nat) : Int) + 1 := by
        simp only [bandOf, p10.bandOf, hkw, if_false]
        rw [show (k : Int) - w = ((k - w.toNat : Nat) : Int) by omega]
      rw [hb]
      simp only [mk]
      have e : ((if h = true then l.take w.toNat else List.replicate w.toNat 0) ++ mk hs ws (l.drop w.toNat)).getD k 0 = (mk hs ws (l.drop w.toNat)).getD (k - w.toNat) 0 := by
        simp only [List.getD]
        rw [List.getElem?_append_right (by omega), hpl]
      rw [e, mk_at hs ws (l.drop w.toNat) (k - w.toNat) (by simpa using he) (fun x hx => hw x (by simp [hx])) (by simp; omega) (by omega)]
      have e2 : (l.drop w.toNat).getD (k - w.toNat) 0 = l.getD k 0 := by
        simp only [List.getD, List.getElem?_drop]
        rw [show w.toNat + (k - w.toNat) = k by omega]
      rw [e2]
      rfl
  | [], w :: ws, _, _, he, _, _, _ => by simp at he
  | h :: hs, [], _, _, he, _, _, _ => by simp at he
theorem f13l0_eq {N : Nat} {w : List Int} {hs : List Bool} (hh : hs.length = w.length) (hl : w.length ≤ 1000) (hw : ∀ x ∈ w, 0 ≤ x ∧ x ≤ 1000) : ∀ (r : List Int) (n i : Nat) (v t : List Int), w.drop i = r → i ≤ w.length → r.length < n → r.sum ≤ t.length → v.length ≤ 1000 * i →
    f13l0 N n v hs t w w.length i = some ((v ++ mk (hs.drop i) r t, ()), ((), ())) := by
  intro r
  induction r with
  | nil =>
    intro n i v t h hi hn _ _
    obtain ⟨m, rfl⟩ : ∃ m, n = m + 1 := ⟨n - 1, by omega⟩
    have := ge_of_drop h
    have h1 : ¬ (i : Int) < w.length := by omega
    have h2 : mk (hs.drop i) [] t = [] := by cases hs.drop i <;> rfl
    simp [f13l0, h1, h2]
  | cons x r ih =>
    intro n i v t h hi hn hs' hv
    obtain ⟨m, rfl⟩ : ∃ m, n = m + 1 := ⟨n - 1, by omega⟩
    have hlt := lt_of_drop h
    have hx : x ∈ w := by
      have := getD_mem (d := 0) hlt
      rwa [getD_of_drop h] at this
    have hx0 := hw x hx
    have hr : 0 ≤ r.sum := p11.sum_nonneg fun y hy => (hw y (by
      have : y ∈ w.drop i := by rw [h]; simp [hy]
      exact List.mem_of_mem_drop this)).1
    simp only [List.sum_cons] at hs'
    simp only [List.length_cons] at hn
    have h1 : (i : Int) < w.length := by omega
    have h1' : (i : Int) < hs.length := by omega
    have h2 : x ≤ (t.length : Int) := by omega
    have hdr : hs.drop i = hs.getD i false :: hs.drop (i + 1) := by
      rw [List.drop_eq_getElem_cons (by omega)]
      simp [List.getD, List.getElem?_eq_getElem (show i < hs.length by omega)]
    have ht : (t.take x.toNat).length = x.toNat := by simp; omega
    have hb : (v.length + x.toNat) * 8 ≤ 140737488355328 := by omega
    have hb2 : x * 8 ≤ 140737488355328 := by omega
    simp only [f13l0, h1, h1', decide_true, cond_true, show (0 : Int) ≤ i by omega, Bool.and_self, Int.toNat_natCast, getD_of_drop h, hx0.1, h2, Int.le_refl, ht, List.length_replicate, hb, hb2]
    rw [w64s i (by omega), hdr]
    cases hs.getD i false with
    | true =>
      simp only [cond_true, bindS, List.append_eq]
      rw [ih m (i + 1) _ (t.drop x.toNat) (drop_of_drop h) hlt (by omega) (by simp; omega) (by simp; omega)]
      simp [mk]
    | false =>
      simp only [cond_false, bindS, List.append_eq]
      rw [ih m (i + 1) _ (t.drop x.toNat) (drop_of_drop h) hlt (by omega) (by simp; omega) (by simp; omega)]
      simp [mk]
/-- The errors of masking. -/
def me (c lim : List Int) (s : Bool) (g : List Int) : Int :=
  if isDiv s g = true then (if c.length = 128 then (if lim.length = (widths s g).length then (if sp c s g = 0 then (if lim.all enOk = true then 0 else 6) else 6) else 4) else 4) else 1
/-- What the mask leaves. -/
structure Masked (c lim : List Int) (s : Bool) (g x : List Int) : Prop where
  len : x.length = 128
  val : ∀ k, k < 128 → x.getD ((order s g).getD k 0).toNat 0 = if lim.getD (bandOf (widths s g) k) 0 < ((bnds c s g).map p11.sq).getD (bandOf (widths s g) k) 0 then c.getD ((order s g).getD k 0).toNat 0 else 0
theorem order_at {s : Bool} {g : List Int} (h : isDiv s g = true) {q : Nat} (hq : q < 128) : ∃ k, k < 128 ∧ ((order s g).getD k 0).toNat = q := by
  obtain ⟨o1, o2, o3, o4⟩ := p10.order_fine h
  obtain ⟨k, hk, he⟩ := List.mem_iff_getElem.1 (o4 q hq)
  refine ⟨k, by rw [← o2]; exact hk, ?_⟩
  have : (order s g).getD k 0 = (q : Int) := by
    simp only [List.getD]
    rw [List.getElem?_eq_getElem hk, Option.getD_some, he]
  omega
theorem Masked.unique {c lim : List Int} {s : Bool} {g x y : List Int} (h : isDiv s g = true) (hx : Masked c lim s g x) (hy : Masked c lim s g y) : x = y :=
  p10.ext_getD (by rw [hx.len, hy.len]) fun q hq => by
    obtain ⟨k, hk, rfl⟩ := order_at h (show q < 128 by have := hx.len; omega)
    rw [hx.val k hk, hy.val k hk]
theorem bandOf_lt {s : Bool} {g : List Int} (h : isDiv s g = true) {k : Nat} (hk : k < 128) : bandOf (widths s g) k < (widths s g).length := by
  have hw := p10.widths_sum h
  have hp := p10.widths_vals h
  have key : ∀ (l : List Int) (i : Int), (∀ x ∈ l, 1 ≤ x) → 0 ≤ i → i < l.sum → bandOf l i < l.length := by
    intro l
    induction l with
    | nil => intro i _ h0 h1; simp at h1; omega
    | cons w r ih =>
      intro i hv h0 h1
      simp only [List.sum_cons] at h1
      have := hv w (by simp)
      simp only [bandOf, p10.bandOf, List.length_cons]
      split
      · omega
      · have := ih (i - w) (fun x hx => hv x (by simp [hx])) (by omega) (by omega)
        simp only [bandOf] at this
        omega
  exact key _ _ (fun x hx => (hp x hx).1) (by omega) (by rw [hw]; omega)
end Go.Sh.c12

namespace Go.Sh.c12

theorem f34l0_eq (N : Nat) (l : List Int) (hl : l.length ≤ 100) (hv : ∀ x ∈ l, 0 ≤ x ∧ x ≤ 1000) : ∀ (r : List Int) (n k : Nat) (i : Int), l.drop k = r → r.length < n → k ≤ l.length → 0 ≤ i → i ≤ 128 →
    f34l0 N n i (k : Int) l (l.length : Int) (k : Int) = some ((), (((k + bandOf r i : Nat) : Int), ())) := by
  intro r
  induction r with
  | nil =>
    intro n k i hd hn hk h0 h1
    obtain ⟨m, rfl⟩ : ∃ m, n = m + 1 := ⟨n - 1, by simp at hn; omega⟩
    have := ge_of_drop hd
    have h1 : ¬ ((k : Int) < (l.length : Int)) := by omega
    simp [f34l0, h1, bandOf, p10.bandOf]
  | cons x r ih =>
    intro n k i hd hn hk h0 h1
    obtain ⟨m, rfl⟩ : ∃ m, n = m + 1 := ⟨n - 1, by simp at hn; omega⟩
    have hlt := lt_of_drop hd
    have hx : l.getD k 0 = x := getD_of_drop hd
    have hxm : x ∈ l := by
      have : x ∈ l.drop k := by rw [hd]; simp
      exact List.mem_of_mem_drop this
    obtain ⟨x0, x1⟩ := hv x hxm
    have h2 : (k : Int) < (l.length : Int) := by omega
    simp only [f34l0, h2, hx, decide_true, cond_true, Int.toNat_natCast, show (0 : Int) ≤ (k : Int) by omega, Bool.and_self, bandOf, p10.bandOf]
    by_cases hix : i < x
    · simp [hix]
    · simp only [hix, decide_false, cond_false, if_false]
      rw [w64 (n := i - x) (by omega) (by omega), w64s k (by omega), ih m (k + 1) (i - x) (drop_of_drop hd) (by simp at hn; omega) (by omega) (by omega) (by omega), bindS]
      congr 4
      simp only [bandOf]
      omega
theorem f34_eq {N : Nat} (hN : 2000 ≤ N) {s : Bool} {g : List Int} (h : isDiv s g = true) {i : Int} (h0 : 0 ≤ i) (h1 : i < 128) : f34F N i s g = some ((), ((bandOf (widths s g) i : Int), (0, ()))) := by
  unfold f34F
  rw [p10.f23_eq (by omega), p10.f31_eq (by omega) h]
  have hl := (p10.widths_len h).1
  have := f34l0_eq N (widths s g) (by simp only [widths]; omega) (p10.widths_vals' h) (widths s g) N 0 i rfl (by simp only [widths]; omega) (by omega) h0 (by omega)
  rw [show ((0 : Nat) : Int) = 0 from rfl, Nat.zero_add] at this
  have a1 : ¬ i < 0 := by omega
  have a2 : ¬ 128 ≤ i := by omega
  simp only [show p10.isDiv s g = true from h, Option.bind_some, Bool.not_true, cond_false, a1, a2, decide_false]
  rw [this]; rfl
/-- The energies. -/
def en (c : List Int) (s : Bool) (g : List Int) : List Int := (bnds c s g).map p11.sq
theorem en_len {c : List Int} {s : Bool} {g : List Int} (h : isDiv s g = true) : (en c s g).length = (widths s g).length := by
  unfold en; rw [List.length_map]; exact p11.bnds_len c s g
theorem en_ok {c : List Int} {s : Bool} {g : List Int} (h : p11.Good c s g) : (en c s g).all enOk = true := by
  rw [List.all_eq_true]
  intro x hx
  obtain ⟨p, hp, rfl⟩ := List.mem_map.1 hx
  obtain ⟨a, _, b⟩ := h.bands p hp
  have := p11.sq_bound a
  unfold enOk p11.enOk
  have c1 : ¬ p11.sq p < 0 := by omega
  have c2 : ¬ 72057594037927936 < p11.sq p := by omega
  simp [c1, c2]
/-- The list in the bands' order, masked. -/
theorem scat_masked {c lim : List Int} {s : Bool} {g : List Int} (h : p11.Good c s g) (hl : lim.length = (widths s g).length) :
    Masked c lim s g (p10.scat (mk (hd (en c s g) lim) (widths s g) (gath s g c)) (order s g) 0 (List.replicate 128 0)) := by
  obtain ⟨o1, o2, o3, o4⟩ := p10.order_fine h.d
  refine ⟨by rw [p10.scat_len]; simp, fun k hk => ?_⟩
  rw [p10.scat_at _ _ _ _ o3 (fun p hp => by have := o1 p hp; simp; omega) k (by rw [o2]; exact hk), Nat.zero_add]
  have hb := bandOf_lt h.d hk
  have hel := en_len (c := c) h.d
  rw [mk_at _ _ _ _ (by rw [hd_len, hel]) (fun x hx => by have := (h.wval x hx).1; omega) (by rw [h.wsum, h.glen]; omega) (by rw [h.wsum]; omega), hd_at (by rw [hel]; exact hb)]
  have e : (gath s g c).getD k 0 = c.getD ((order s g).getD k 0).toNat 0 := by
    unfold gath p11.gath
    simp only [List.getD, List.getElem?_map]
    rw [List.getElem?_eq_getElem (show k < (p11.order s g).length by rw [o2]; exact hk)]
    rfl
  rw [e]
  simp only [decide_eq_true_eq]
  rfl
theorem f13_eq {N : Nat} (hN : 2000 ≤ N) (c lim : List Int) (s : Bool) (g : List Int) : ∃ r : List Int, f13F N c lim s g = some ((r, ()), ((), (me c lim s g, ()))) ∧ (me c lim s g ≠ 0 → r = []) ∧ (me c lim s g = 0 → Masked c lim s g r) := by
  unfold f13F me
  rw [p10.f10_eq (by omega)]
  by_cases hd' : isDiv s g = true
  · have hd2 : p10.isDiv s g = true := hd'
    have hwl := (p10.widths_len hd').1
    simp only [hd2, if_true, Option.bind_some, bne_self_eq_false, cond_false, show isDiv s g = true from hd']
    by_cases hc : c.length = 128
    · have c1 : ((c.length : Int) != 128) = false := by rw [hc]; rfl
      simp only [c1, cond_false, hc, if_true]
      by_cases hl : lim.length = (widths s g).length
      · have c2 : ((lim.length : Int) != ((p10.widths s g).length : Int)) = false := by rw [hl]; exact bne_self_eq_false _
        simp only [c2, cond_false, hl, if_true]
        rw [p11.f12_eq hN]
        by_cases hs : sp c s g = 0
        · have hh := p11.Good.of hs
          have hs2 : p11.sp c s g = 0 := hs
          have hel := en_len (c := c) hd'
          simp only [hs, hs2, if_true, Option.bind_some, bne_self_eq_false, cond_false]
          rw [show (p11.bnds c s g).map p11.sq = en c s g from rfl, f24_eq hN (by rw [hl, hel]) (by rw [hel]; exact hwl), en_ok hh]
          simp only [Bool.true_and]
          by_cases hlim : lim.all enOk = true
          · have hlim2 : lim.all p11.enOk = true := hlim
            have hg : p11.f45_eq hN c s g = p11.f45_eq hN c s g := rfl
            simp only [hlim, hlim2, if_true, Option.bind_some, bne_self_eq_false, cond_false]
            rw [p11.f45_eq hN]
            have hd3 : p11.isDiv s g = true := hd'
            simp only [hd3, hc, and_self, if_true, Option.bind_some]
            have hloop := f13l0_eq (N := N) (w := widths s g) (hs := hd (en c s g) lim) (by rw [hd_len, hel]) (by simp only [widths]; omega) (p10.widths_vals' hd') (widths s g) N 0 [] (gath s g c) rfl (Nat.zero_le _) (by simp only [widths]; omega) (by rw [hh.wsum, hh.glen]; omega) (by simp)
            rw [show ((0 : Nat) : Int) = 0 from rfl, List.drop_zero, List.nil_append] at hloop
            rw [show f13l0 N N [] (hd (en c s g) lim) (p11.gath s g c) (p10.widths s g) ((p10.widths s g).length : Int) 0 = _ from hloop]
            have hml : (mk (hd (en c s g) lim) (widths s g) (gath s g c)).length = 128 := by
              have := mk_len (hd (en c s g) lim) (widths s g) (gath s g c) (by rw [hd_len, hel]) (fun x hx => by have := (hh.wval x hx).1; omega) (by rw [hh.wsum, hh.glen]; omega)
              rw [hh.wsum] at this
              omega
            simp only [Option.bind_some]
            rw [p10.f21_eq hN _ s g (fun h => ⟨(p10.order_fine h).1, (p10.order_fine h).2.1⟩)]
            simp only [hd2, hml, and_self, if_true, Option.bind_some]
            exact ⟨_, rfl, by simp, fun _ => scat_masked hh hl⟩
          · have hlim2 : lim.all p11.enOk = false := by simpa using hlim
            refine ⟨[], ?_, by simp, by simp [hlim2]⟩
            simp [hlim2]
        · have hs2 : (p11.sp c s g != 0) = true := by simpa using hs
          have h6 : p11.sp c s g = 6 := by
            have hd3 : p11.isDiv s g = true := hd'
            unfold sp p11.sp at hs
            unfold p11.sp
            rw [if_pos hd3, if_pos hc] at hs ⊢
            split
            · rename_i hr; rw [if_pos hr] at hs; exact absurd rfl hs
            · rfl
          refine ⟨[], ?_, by simp, by simp [hs]⟩
          simp only [hs2, Option.bind_some, cond_true, hs, if_false]
          rw [h6]
          simp only [show (((128 : Nat) : Int) != 128) = false from rfl, show (((widths s g).length : Int) != ((p10.widths s g).length : Int)) = false from bne_self_eq_false _, cond_false]
      · have c2 : ((lim.length : Int) != ((p10.widths s g).length : Int)) = true := bne_iff_ne.2 (by have : lim.length ≠ (p10.widths s g).length := hl; omega)
        refine ⟨[], ?_, by simp, by simp [hl]⟩
        simp only [c2, cond_true, hl, if_false]
        simp only [show (((128 : Nat) : Int) != 128) = false from rfl, cond_false]
    · have c1 : ((c.length : Int) != 128) = true := bne_iff_ne.2 (by omega)
      refine ⟨[], ?_, by simp, by simp [hc]⟩
      simp only [c1, cond_true, hc, if_false]
  · have hd2 : p10.isDiv s g = false := by simpa using hd'
    refine ⟨[], ?_, by simp, by simp [hd']⟩
    simp [hd2, hd']
/-! ### The reference -/
theorem f14l0_eq {N : Nat} (hN : 2000 ≤ N) {c lim : List Int} {s : Bool} {g : List Int} (hh : p11.Good c s g) (hl : lim.length = (widths s g).length) : ∀ (k m i : Nat) (v : List Int), i + k = 128 → v.length = 128 →
    (∀ j, j < i → v.getD ((order s g).getD j 0).toNat 0 = if lim.getD (bandOf (widths s g) j) 0 < (en c s g).getD (bandOf (widths s g) j) 0 then c.getD ((order s g).getD j 0).toNat 0 else 0) →
    (∀ j, i ≤ j → j < 128 → v.getD ((order s g).getD j 0).toNat 0 = c.getD ((order s g).getD j 0).toNat 0) →
    ∃ r : List Int, f14l0 N (m + k + 1) v lim s g (en c s g) (order s g) (order s g).length i = some ((r, ()), ((), ())) ∧ Masked c lim s g r := by
  obtain ⟨o1, o2, o3, o4⟩ := p10.order_fine hh.d
  have o2' : (order s g).length = 128 := o2
  intro k
  induction k with
  | zero =>
    intro m i v h hv hp _
    obtain rfl : i = 128 := by omega
    refine ⟨v, ?_, hv, hp⟩
    have : ¬ ((128 : Nat) : Int) < ((order s g).length : Int) := by rw [o2']; omega
    simp only [f14l0, this, decide_false, cond_false]
  | succ k ih =>
    intro m i v h hv hp hq
    have ih' := fun v => ih m (i + 1) v (by omega)
    rw [show m + (k + 1) + 1 = (m + k + 1) + 1 by omega]
    generalize m + k + 1 = M at ih' ⊢
    have hi : i < 128 := by omega
    have c1 : (i : Int) < ((order s g).length : Int) := by rw [o2']; omega
    have hb := bandOf_lt hh.d hi
    have hel := en_len (c := c) hh.d
    have c2 : ((bandOf (widths s g) i : Nat) : Int) < ((en c s g).length : Int) := by rw [hel]; omega
    have c3 : ((bandOf (widths s g) i : Nat) : Int) < (lim.length : Int) := by rw [hl]; omega
    have hmem : (order s g).getD i 0 ∈ order s g := getD_mem (by rw [o2']; exact hi)
    obtain ⟨p0, p1⟩ := o1 _ hmem
    have c4 : (order s g).getD i 0 < (v.length : Int) := by omega
    have hinj : ∀ j, j < 128 → j ≠ i → ((order s g).getD j 0).toNat ≠ ((order s g).getD i 0).toNat := fun j hj hne he => by
      have hj0 := (o1 _ (getD_mem (l := order s g) (i := j) (d := 0) (by rw [o2']; exact hj))).1
      have he' : (order s g).getD j 0 = (order s g).getD i 0 := by omega
      have h1 : (order s g)[j]? = (order s g)[i]? := by
        rw [List.getElem?_eq_getElem (by rw [o2']; exact hj), List.getElem?_eq_getElem (by rw [o2']; exact hi)]
        simp only [List.getD] at he'
        rw [List.getElem?_eq_getElem (by rw [o2']; exact hj), List.getElem?_eq_getElem (by rw [o2']; exact hi)] at he'
        simpa using he'
      exact hne ((List.getElem?_inj (by rw [o2']; exact hj) o3).1 h1)
    simp only [f14l0, c1, decide_true, cond_true, show (0 : Int) ≤ i by omega, Bool.and_self, Int.toNat_natCast]
    rw [f34_eq hN hh.d (by omega) (by omega), w64s i (by omega)]
    simp only [Option.bind_some, c2, c3, decide_true, cond_true, show (0 : Int) ≤ ((bandOf (widths s g) i : Nat) : Int) by omega, Bool.and_self, Int.toNat_natCast]
    by_cases hle : (en c s g).getD (bandOf (widths s g) i) 0 ≤ lim.getD (bandOf (widths s g) i) 0
    · have p0' : 0 ≤ (order s g).getD i 0 := p0
      simp only [hle, p0', c4, decide_true, cond_true, Bool.and_self, bindS]
      refine ih' _ (by simp [hv]) (fun j hj => ?_) (fun j hj hj' => ?_)
      · rw [p11.set_getD _ _ _ _ (by omega)]
        by_cases hji : j = i
        · subst hji; rw [if_pos rfl, if_neg (by omega)]
        · rw [if_neg (hinj j (by omega) hji)]; exact hp j (by omega)
      · rw [p11.set_getD _ _ _ _ (by omega), if_neg (hinj j hj' (by omega))]; exact hq j (by omega) hj'
    · simp only [hle, decide_false, cond_false, bindS]
      refine ih' v hv (fun j hj => ?_) (fun j hj hj' => hq j (by omega) hj')
      by_cases hji : j = i
      · subst hji; rw [if_pos (by omega)]; exact hq j (Nat.le_refl _) hi
      · exact hp j (by omega)
theorem f14_eq {N : Nat} (hN : 2000 ≤ N) (c lim : List Int) (s : Bool) (g : List Int) (hlm : lim.length ≤ 1000) : ∃ r : List Int, f14F N c lim s g = some ((r, ()), ((), (me c lim s g, ()))) ∧ (me c lim s g ≠ 0 → r = []) ∧ (me c lim s g = 0 → Masked c lim s g r) := by
  unfold f14F me
  rw [p10.f23_eq (by omega)]
  by_cases hd' : isDiv s g = true
  · have hd2 : p10.isDiv s g = true := hd'
    have hwl := (p10.widths_len hd').1
    rw [p10.f31_eq (by omega) hd2]
    simp only [hd2, if_true, Option.bind_some, Bool.not_true, cond_false, show isDiv s g = true from hd']
    by_cases hc : c.length = 128
    · have c1 : ((c.length : Int) != 128) = false := by rw [hc]; rfl
      simp only [c1, cond_false, hc, if_true]
      by_cases hl : lim.length = (widths s g).length
      · have c2 : ((lim.length : Int) != ((p10.widths s g).length : Int)) = false := by rw [hl]; exact bne_self_eq_false _
        simp only [c2, cond_false, hl, if_true]
        rw [p11.f13_eq hN]
        by_cases hs : sp c s g = 0
        · have hh := p11.Good.of hs
          have hs2 : p11.sp c s g = 0 := hs
          simp only [hs, hs2, if_true, Option.bind_some, bne_self_eq_false, cond_false]
          rw [f32_eq hlm hN]
          by_cases hlim : lim.all enOk = true
          · have hb : (([] : List Int).length + 128) * 8 ≤ 140737488355328 := by simp
            simp only [hlim, if_true, Option.bind_some, Bool.not_true, cond_false, hb, decide_true, cond_true]
            rw [p10.f34_eq hN hd2]
            obtain ⟨m, hm⟩ : ∃ m, N = m + 128 + 1 := ⟨N - 129, by omega⟩
            obtain ⟨r, e1, e2⟩ := f14l0_eq hN hh hl 128 m 0 c rfl hc (fun j hj => by omega) (fun j _ _ => rfl)
            rw [← hm, show ((0 : Nat) : Int) = 0 from rfl] at e1
            simp only [Option.bind_some]
            rw [show List.append ([] : List Int) c = c from rfl, show f14l0 N N c lim s g ((p11.bnds c s g).map p11.sq) (p10.order s g) ((p10.order s g).length : Int) 0 = _ from e1]
            exact ⟨r, rfl, by simp, fun _ => e2⟩
          · have hlim2 : lim.all enOk = false := by simpa using hlim
            refine ⟨[], ?_, by simp, by simp [hlim2]⟩
            simp [hlim2]
        · have hs2 : (p11.sp c s g != 0) = true := by simpa using hs
          refine ⟨[], ?_, by simp, by simp [hs]⟩
          simp only [hs2, Option.bind_some, cond_true, hs, if_false]
          simp only [show (((128 : Nat) : Int) != 128) = false from rfl, show (((widths s g).length : Int) != ((p10.widths s g).length : Int)) = false from bne_self_eq_false _, cond_false]
      · have c2 : ((lim.length : Int) != ((p10.widths s g).length : Int)) = true := bne_iff_ne.2 (by have : lim.length ≠ (p10.widths s g).length := hl; omega)
        refine ⟨[], ?_, by simp, by simp [hl]⟩
        simp only [c2, cond_true, hl, if_false]
        simp only [show (((128 : Nat) : Int) != 128) = false from rfl, cond_false]
    · have c1 : ((c.length : Int) != 128) = true := bne_iff_ne.2 (by omega)
      refine ⟨[], ?_, by simp, by simp [hc]⟩
      simp only [c1, cond_true, hc, if_false]
  · have hd2 : p10.isDiv s g = false := by simpa using hd'
    refine ⟨[], ?_, by simp, by simp [hd']⟩
    simp [hd2, hd']
theorem awake12 : f12F 200000 = some ((), (true, ())) := by kernel_rfl
theorem ints_self {a : List Int} (h : a.length ≤ 1000) : f15F 200000 a a = some ((), (true, ())) := by
  rw [p10.f16_eq a (by omega) (by omega)]; simp
theorem psychoMasks (c lim : List Int) (p : Bool × (List Int × Unit)) : f3F 200000 c lim p = some ((), (true, ())) := by
  unfold f3F
  rw [f11_eq (by omega) (by simp), awake12]
  cases hf : ([c, lim, p.2.1].all fun l => decide (l.length ≤ 300)) with
  | false => simp
  | true =>
    have hlm : lim.length ≤ 300 := by
      simp only [List.all_cons, Bool.and_eq_true, decide_eq_true_eq] at hf
      exact hf.2.1
    obtain ⟨r, a1, a2, a3⟩ := f13_eq (N := 200000) (by omega) c lim p.1 p.2.1
    obtain ⟨r', b1, b2, b3⟩ := f14_eq (N := 200000) (by omega) c lim p.1 p.2.1 (by omega)
    have hrr : r = r' ∧ r.length ≤ 1000 := by
      by_cases h : me c lim p.1 p.2.1 = 0
      · have hd' : isDiv p.1 p.2.1 = true := by
          unfold me at h
          split at h
          · assumption
          · cases h
        exact ⟨Masked.unique hd' (a3 h) (b3 h), by rw [(a3 h).len]; omega⟩
      · rw [a2 h, b2 h]; simp
    obtain ⟨rfl, hr⟩ := hrr
    rw [a1, b1]
    simp only [Option.bind_some, ints_self hr]
    simp
end Go.Sh.c12

namespace Go.Sh.c12

/-- The bands of a masked list. -/
theorem cutW_mk : ∀ (hs : List Bool) (ws l : List Int), hs.length = ws.length → (∀ x ∈ ws, 0 ≤ x) → ws.sum ≤ l.length →
    (p11.cutW (mk hs ws l) ws).map p11.sq = List.zipWith (fun (h : Bool) x => if h = true then x else 0) hs ((p11.cutW l ws).map p11.sq)
  | [], [], l, _, _, _ => by simp [mk, p11.cutW]
  | h :: hs, w :: ws, l, he, hw, hs' => by
    have h1 := hw w (by simp)
    have h2 := p11.sum_nonneg (r := ws) fun x hx => hw x (by simp [hx])
    simp only [List.sum_cons] at hs'
    have hpl : (if h = true then l.take w.toNat else List.replicate w.toNat 0).length = w.toNat := by
      split
      · simp; omega
      · simp
    have ih := cutW_mk hs ws (l.drop w.toNat) (by simpa using he) (fun x hx => hw x (by simp [hx])) (by simp; omega)
    simp only [mk, p11.cutW, List.map_cons, List.zipWith_cons_cons]
    rw [List.take_append_of_le_length (by omega), List.take_of_length_le (by omega), List.drop_append_of_le_length (by omega), List.drop_of_length_le (by omega), List.nil_append, ih]
    congr 1
    cases h
    · have : ∀ n : Nat, p11.sq (List.replicate n 0) = 0 := fun n => by
        unfold p11.sq
        induction n with
        | zero => rfl
        | succ n ih => simp only [List.replicate_succ, List.map_cons, List.sum_cons, ih]; rfl
      simpa using this w.toNat
    · rfl
  | [], w :: ws, _, he, _, _ => by simp at he
  | h :: hs, [], _, he, _, _ => by simp at he
theorem gath_at {c : List Int} {s : Bool} {g : List Int} (h : isDiv s g = true) {k : Nat} (hk : k < 128) : (gath s g c).getD k 0 = c.getD ((order s g).getD k 0).toNat 0 := by
  obtain ⟨o1, o2, o3, o4⟩ := p10.order_fine h
  unfold gath p11.gath
  simp only [List.getD, List.getElem?_map]
  rw [List.getElem?_eq_getElem (show k < (p11.order s g).length by rw [o2]; exact hk)]
  rfl
/-- A list that is masked so, in the bands' order. -/
theorem gath_mk {c x : List Int} {s : Bool} {g : List Int} (hh : p11.Good c s g) {hs : List Bool} (hl : hs.length = (widths s g).length) (hx : x.length = 128)
    (hv : ∀ k, k < 128 → x.getD ((order s g).getD k 0).toNat 0 = if hs.getD (bandOf (widths s g) k) false = true then c.getD ((order s g).getD k 0).toNat 0 else 0) : gath s g x = mk hs (widths s g) (gath s g c) := by
  have hml := mk_len hs (widths s g) (gath s g c) hl (fun x hx => by have := (hh.wval x hx).1; omega) (by rw [hh.wsum, hh.glen]; omega)
  rw [hh.wsum] at hml
  refine p10.ext_getD (by rw [p11.gath_len hh.d]; omega) fun k hk => ?_
  rw [p11.gath_len hh.d] at hk
  rw [gath_at hh.d hk, hv k hk, mk_at hs (widths s g) (gath s g c) k hl (fun x hx => by have := (hh.wval x hx).1; omega) (by rw [hh.wsum, hh.glen]; omega) (by rw [hh.wsum]; omega), gath_at hh.d hk]
theorem en_masked {c x : List Int} {s : Bool} {g : List Int} (hh : p11.Good c s g) {hs : List Bool} (hl : hs.length = (widths s g).length) (hx : x.length = 128)
    (hv : ∀ k, k < 128 → x.getD ((order s g).getD k 0).toNat 0 = if hs.getD (bandOf (widths s g) k) false = true then c.getD ((order s g).getD k 0).toNat 0 else 0) : en x s g = List.zipWith (fun (h : Bool) x => if h = true then x else 0) hs (en c s g) := by
  unfold en bnds p11.bnds
  rw [show p11.gath s g x = mk hs (widths s g) (gath s g c) from gath_mk hh hl hx hv]
  exact cutW_mk hs (widths s g) (gath s g c) hl (fun x hx => by have := (hh.wval x hx).1; omega) (by rw [hh.wsum, hh.glen]; omega)
theorem inR_masked {c x : List Int} {s : Bool} {g : List Int} (hh : p11.Good c s g) {hs : List Bool} (hx : x.length = 128)
    (hv : ∀ k, k < 128 → x.getD ((order s g).getD k 0).toNat 0 = if hs.getD (bandOf (widths s g) k) false = true then c.getD ((order s g).getD k 0).toNat 0 else 0) : p11.InR x := fun y hy => by
  obtain ⟨q, hq, rfl⟩ := List.mem_iff_getElem.1 hy
  obtain ⟨k, hk, hkq⟩ := order_at hh.d (show q < 128 by omega)
  have := hv k hk
  rw [hkq] at this
  have e : x.getD q 0 = x[q] := by simp [List.getD, List.getElem?_eq_getElem hq]
  rw [e] at this
  rw [this]
  split
  · have h2 : q < c.length := by rw [hh.len]; omega
    exact p11.getD_in hh.inr h2
  · omega
theorem masks_hd {c lim : List Int} {s : Bool} {g x : List Int} (hd' : isDiv s g = true) (h : Masked c lim s g x) : ∀ k, k < 128 → x.getD ((order s g).getD k 0).toNat 0 = if (hd (en c s g) lim).getD (bandOf (widths s g) k) false = true then c.getD ((order s g).getD k 0).toNat 0 else 0 := fun k hk => by
  rw [h.val k hk, hd_at (by rw [en_len hd']; exact bandOf_lt hd' hk)]
  simp only [decide_eq_true_eq]
  rfl
theorem f4l0_eq {N : Nat} {c a : List Int} (hc : c.length = 128) (ha : a.length = 128) (hr : p11.InR c) (hm : ∀ q, q < 128 → a.getD q 0 = 0 ∨ a.getD q 0 = c.getD q 0) : ∀ (k m i : Nat) (v : List Int), i + k = 128 → v.length = 128 → (∀ j, j < i → v.getD j 0 = c.getD j 0 - a.getD j 0) →
    ∃ r : List Int, f4l0 N (m + k + 1) v c a 128 i = some (.inl ((r, ()), ((), ()))) ∧ r.length = 128 ∧ ∀ j, j < 128 → r.getD j 0 = c.getD j 0 - a.getD j 0 := by
  intro k
  induction k with
  | zero =>
    intro m i v h hv hp
    obtain rfl : i = 128 := by omega
    exact ⟨v, by simp [f4l0], hv, hp⟩
  | succ k ih =>
    intro m i v h hv hp
    have ih' := fun v => ih m (i + 1) v (by omega)
    rw [show m + (k + 1) + 1 = (m + k + 1) + 1 by omega]
    generalize m + k + 1 = M at ih' ⊢
    have hi : i < 128 := by omega
    have c1 : (i : Int) < 128 := by omega
    have c2 : (i : Int) < (a.length : Int) := by omega
    have c3 : (i : Int) < (c.length : Int) := by omega
    have c4 : (i : Int) < (v.length : Int) := by omega
    have hci := p11.getD_in hr (show i < c.length by omega)
    have hai := hm i hi
    have fin : ∃ r : List Int, f4l0 N M (v.set i (c.getD i 0 - a.getD i 0)) c a 128 ((i + 1 : Nat) : Int) = some (.inl ((r, ()), ((), ()))) ∧ r.length = 128 ∧ ∀ j, j < 128 → r.getD j 0 = c.getD j 0 - a.getD j 0 := by
      refine ih' _ (by simp [hv]) (fun j hj => ?_)
      rw [p11.set_getD _ _ _ _ (by omega)]
      by_cases hji : j = i
      · subst hji; rw [if_pos rfl]
      · rw [if_neg hji]; exact hp j (by omega)
    simp only [f4l0, c1, c2, c3, c4, decide_true, cond_true, show (0 : Int) ≤ i by omega, Bool.and_self, Int.toNat_natCast]
    rw [w64 (n := c.getD i 0 - a.getD i 0) (by omega) (by omega), w64s i (by omega)]
    by_cases h0 : a.getD i 0 = 0
    · have : (a.getD i 0 != 0) = false := by rw [h0]; rfl
      simp only [this, cond_false, bindS]
      exact fin
    · have h1 : (a.getD i 0 != 0) = true := bne_iff_ne.2 h0
      have h2 : (a.getD i 0 != c.getD i 0) = false := by
        rcases hai with h | h
        · exact absurd h h0
        · rw [h]; exact bne_self_eq_false _
      simp only [h1, h2, cond_true, cond_false, bindS]
      exact fin
theorem f4l2_eq {N : Nat} (hN : 2000 ≤ N) {lim l m : List Int} (h1 : lim.length = l.length) (h2 : m.length = l.length) (hl : l.length ≤ 1000) (ha : ∀ b, b < l.length → l.getD b 0 ≤ lim.getD b 0) (hb : ∀ b, b < l.length → m.getD b 0 ≤ 0 ∨ l.getD b 0 ≤ 0) : f4l2 N N lim l m l.length 0 = some (.inl ((), ())) := by
  have h := range_fold (l := l) 0 (f := fun n (_ : Unit) i => f4l2 N n lim l m l.length i) (step := fun _ _ => ()) (fun _ _ => True) (fin := fun _ => some (.inl ((), ()))) (fun n i s hi _ => by
    have c1 : (i : Int) < (l.length : Int) := by omega
    have c2 : (i : Int) < (lim.length : Int) := by omega
    have c3 : (i : Int) < (m.length : Int) := by omega
    have hx := ha i hi
    have c4 : ¬ lim.getD i 0 < l.getD i 0 := by omega
    refine ⟨?_, trivial⟩
    simp only [f4l2, c1, c2, c3, c4, decide_true, decide_false, cond_true, cond_false, show (0 : Int) ≤ i by omega, Bool.and_self, Int.toNat_natCast]
    rw [w64s i (by omega)]
    by_cases h5 : 0 < m.getD i 0
    · have h6 : ¬ 0 < l.getD i 0 := by have := hb i hi; omega
      simp only [h5, h6, decide_true, decide_false, cond_true, cond_false, bindS]
    · simp only [h5, decide_false, cond_false, bindS]) (fun n s _ => by simp [f4l2]) N () (by omega) trivial
  exact h
theorem zip_at (hs : List Bool) (l : List Int) (h : hs.length = l.length) {b : Nat} (hb : b < l.length) : (List.zipWith (fun (h : Bool) x => if h = true then x else 0) hs l).getD b 0 = if hs.getD b false = true then l.getD b 0 else 0 := by
  simp [List.getD, List.getElem?_zipWith, List.getElem?_eq_getElem (show b < hs.length by omega), List.getElem?_eq_getElem hb]
theorem psychoMasked (c lim : List Int) (p : Bool × (List Int × Unit)) : f4F 200000 c lim p = some ((), (true, ())) := by
  unfold f4F
  rw [f11_eq (by omega) (by simp), awake12]
  cases hf : ([c, lim, p.2.1].all fun l => decide (l.length ≤ 300)) with
  | false => simp
  | true =>
    obtain ⟨a, a1, a2, a3⟩ := f13_eq (N := 200000) (by omega) c lim p.1 p.2.1
    rw [a1]
    by_cases h : me c lim p.1 p.2.1 = 0
    · have hM := a3 h
      have hcond : isDiv p.1 p.2.1 = true ∧ lim.length = (widths p.1 p.2.1).length ∧ sp c p.1 p.2.1 = 0 ∧ lim.all enOk = true := by
        unfold me at h
        split at h
        · split at h
          · split at h
            · split at h
              · split at h
                · exact ⟨by assumption, by assumption, by assumption, by assumption⟩
                · cases h
              · cases h
            · cases h
          · cases h
        · cases h
      obtain ⟨hd', hll, hsp, hlim⟩ := hcond
      have hh := p11.Good.of hsp
      have hel := en_len (c := c) hd'
      have hhd : (hd (en c p.1 p.2.1) lim).length = (widths p.1 p.2.1).length := by rw [hd_len, hel]
      have hmask := masks_hd hd' hM
      have hq : ∀ q, q < 128 → a.getD q 0 = 0 ∨ a.getD q 0 = c.getD q 0 := fun q hq => by
        obtain ⟨k, hk, rfl⟩ := order_at hd' hq
        rw [hmask k hk]
        split
        · exact .inr rfl
        · exact .inl rfl
      obtain ⟨r, r1, r2, r3⟩ := f4l0_eq (N := 200000) hh.len hM.len hh.inr hq 128 199871 0 (List.replicate 128 0) rfl (List.length_replicate ..) (fun j hj => by omega)
      rw [show ((0 : Nat) : Int) = 0 from rfl, show 199871 + 128 + 1 = 200000 from rfl] at r1
      -- what is left out, masked the other way round
      have hnot : ((hd (en c p.1 p.2.1) lim).map not).length = (widths p.1 p.2.1).length := by rw [List.length_map, hhd]
      have hrest : ∀ k, k < 128 → r.getD ((order p.1 p.2.1).getD k 0).toNat 0 = if ((hd (en c p.1 p.2.1) lim).map not).getD (bandOf (widths p.1 p.2.1) k) false = true then c.getD ((order p.1 p.2.1).getD k 0).toNat 0 else 0 := fun k hk => by
        obtain ⟨o1, o2, _, _⟩ := p10.order_fine hd'
        have hp := o1 _ (getD_mem (l := order p.1 p.2.1) (i := k) (d := 0) (by rw [show (order p.1 p.2.1).length = 128 from o2]; exact hk))
        have hb : bandOf (widths p.1 p.2.1) k < (hd (en c p.1 p.2.1) lim).length := by rw [hhd]; exact bandOf_lt hd' hk
        rw [r3 _ (by have h2 : (p10.order p.1 p.2.1).getD k 0 < 128 := hp.2; have h1 : 0 ≤ (p10.order p.1 p.2.1).getD k 0 := hp.1; simp only [order]; omega), hmask k hk]
        have e : ((hd (en c p.1 p.2.1) lim).map not).getD (bandOf (widths p.1 p.2.1) k) false = !((hd (en c p.1 p.2.1) lim).getD (bandOf (widths p.1 p.2.1) k) false) := by
          simp only [List.getD, List.getElem?_map]
          rw [List.getElem?_eq_getElem hb]; rfl
        rw [e]
        cases (hd (en c p.1 p.2.1) lim).getD (bandOf (widths p.1 p.2.1) k) false <;> simp
      have s1 := p11.sp_of hd' r2 (inR_masked hh r2 hrest)
      have s2 := p11.sp_of hd' hM.len (inR_masked hh hM.len hmask)
      have e1 := en_masked hh hnot r2 hrest
      have e2 := en_masked hh hhd hM.len hmask
      have l1 : (en r p.1 p.2.1).length = (widths p.1 p.2.1).length := en_len hd'
      have l2 : (en a p.1 p.2.1).length = (widths p.1 p.2.1).length := en_len hd'
      have hwl := (p10.widths_len hd').1
      have hvals : ∀ x ∈ en c p.1 p.2.1, 0 ≤ x := fun x hx => by
        obtain ⟨q, hq, rfl⟩ := List.mem_map.1 hx
        exact (p11.sq_bound (hh.bands q hq).1).1
      have hlim0 : ∀ b, b < lim.length → 0 ≤ lim.getD b 0 := fun b hb => by
        have := List.all_eq_true.1 hlim _ (getD_mem (d := 0) hb)
        unfold enOk p11.enOk at this
        generalize lim.getD b 0 = y at *
        simp at this
        omega
      have hl2 := f4l2_eq (N := 200000) (by omega) (lim := lim) (l := en r p.1 p.2.1) (m := en a p.1 p.2.1) (by rw [hll, l1]) (by rw [l1, l2]) (by rw [l1]; have : (widths p.1 p.2.1).length ≤ 32 := hwl; omega) (fun b hb => by
        rw [l1] at hb
        rw [e1, zip_at _ _ (by rw [hnot, hel]) (by rw [hel]; exact hb)]
        have e : ((hd (en c p.1 p.2.1) lim).map not).getD b false = !((hd (en c p.1 p.2.1) lim).getD b false) := by
          simp only [List.getD, List.getElem?_map]
          rw [List.getElem?_eq_getElem (by rw [hhd]; exact hb)]; rfl
        rw [e, hd_at (by rw [hel]; exact hb)]
        have := hlim0 b (by rw [hll]; exact hb)
        by_cases hx : lim.getD b 0 < (en c p.1 p.2.1).getD b 0
        · simp only [hx, decide_true, Bool.not_true, Bool.false_eq_true, if_false]; exact this
        · have : (en c p.1 p.2.1).getD b 0 ≤ lim.getD b 0 := by omega
          simp only [hx, decide_false, Bool.not_false, if_true]
          exact this) (fun b hb => by
        rw [l1] at hb
        rw [e1, e2, zip_at _ _ (by rw [hhd, hel]) (by rw [hel]; exact hb), zip_at _ _ (by rw [hnot, hel]) (by rw [hel]; exact hb)]
        have e : ((hd (en c p.1 p.2.1) lim).map not).getD b false = !((hd (en c p.1 p.2.1) lim).getD b false) := by
          simp only [List.getD, List.getElem?_map]
          rw [List.getElem?_eq_getElem (by rw [hhd]; exact hb)]; rfl
        rw [e]
        cases (hd (en c p.1 p.2.1) lim).getD b false <;> simp)
      simp only [Option.bind_some, Bool.not_true, cond_false, h, bne_self_eq_false, hM.len]
      rw [show ((128 : Nat) : Int) = 128 from rfl, r1]
      simp only [Option.bind_some, Sum.elim_inl, bne_self_eq_false, cond_false]
      rw [p11.f13_eq (by omega), p11.f13_eq (by omega), s1, s2, p10.f31_eq (by omega) hd']
      simp only [if_true, Option.bind_some, bne_self_eq_false, cond_false]
      rw [show (p11.bnds r p.1 p.2.1).map p11.sq = en r p.1 p.2.1 from rfl, show (p11.bnds a p.1 p.2.1).map p11.sq = en a p.1 p.2.1 from rfl, hl2, l1]
      simp [widths]
    · have h' : (me c lim p.1 p.2.1 != 0) = true := bne_iff_ne.2 h
      rw [a2 h]
      simp [h']
end Go.Sh.c12

namespace Go.Sh.c12

/-! ### Quiet -/
abbrev qT : Int × (Int × (Int × (Int × (Int × (Int × (Int × (Int × (Int × (Int × (Int × (Int × Unit))))))))))) := (100, (2560, (500, (1280, (2000, (768, (5000, (512, (10000, (1024, (15000, (2048, ()))))))))))))
theorem q0 (N n : Nat) (p : Int) : f18l0 N (n + 1) p qT 0 = bif decide (p < 100) then some (.inr ((), (2560, (0, ())))) else (f18l0 N n p qT 1).bind some := by kernel_rfl
theorem q1 (N n : Nat) (p : Int) : f18l0 N (n + 1) p qT 1 = bif decide (p < 500) then some (.inr ((), (1280, (0, ())))) else (f18l0 N n p qT 2).bind some := by kernel_rfl
theorem q2 (N n : Nat) (p : Int) : f18l0 N (n + 1) p qT 2 = bif decide (p < 2000) then some (.inr ((), (768, (0, ())))) else (f18l0 N n p qT 3).bind some := by kernel_rfl
theorem q3 (N n : Nat) (p : Int) : f18l0 N (n + 1) p qT 3 = bif decide (p < 5000) then some (.inr ((), (512, (0, ())))) else (f18l0 N n p qT 4).bind some := by kernel_rfl
theorem q4 (N n : Nat) (p : Int) : f18l0 N (n + 1) p qT 4 = bif decide (p < 10000) then some (.inr ((), (1024, (0, ())))) else (f18l0 N n p qT 5).bind some := by kernel_rfl
theorem q5 (N n : Nat) (p : Int) : f18l0 N (n + 1) p qT 5 = bif decide (p < 15000) then some (.inr ((), (2048, (0, ())))) else (f18l0 N n p qT 6).bind some := by kernel_rfl
theorem q6 (N n : Nat) (p : Int) : f18l0 N (n + 1) p qT 6 = some (.inl ((), ())) := by kernel_rfl
def ql (p : Int) : Int := if p < 100 then 2560 else if p < 500 then 1280 else if p < 2000 then 768 else if p < 5000 then 512 else if p < 10000 then 1024 else if p < 15000 then 2048 else 3072
theorem f42_eq (N : Nat) (p : Int) : f42F N p = some ((), (ql p, ())) := by
  unfold f42F ql
  by_cases h1 : p < 100
  · simp [h1]
  · by_cases h2 : p < 500
    · simp [h1, h2]
    · by_cases h3 : p < 2000
      · simp [h1, h2, h3]
      · by_cases h4 : p < 5000
        · simp [h1, h2, h3, h4]
        · by_cases h5 : p < 10000
          · simp [h1, h2, h3, h4, h5]
          · by_cases h6 : p < 15000
            · simp [h1, h2, h3, h4, h5, h6]
            · simp [h1, h2, h3, h4, h5, h6]
theorem f18l0_eq {N : Nat} (hN : 100 ≤ N) (p : Int) : ((f18l0 N N p qT 0).bind fun y2 => Sum.elim (fun _ => some ((), (3072, (0, ())))) (fun w4 => some ((), (w4.2.1, (w4.2.2.1, ())))) y2) = some ((), (ql p, (0, ()))) := by
  obtain ⟨m, hm⟩ : ∃ m, N = m + 1 + 1 + 1 + 1 + 1 + 1 + 1 := ⟨N - 7, by omega⟩
  have e : f18l0 N N p qT 0 = f18l0 N (m + 1 + 1 + 1 + 1 + 1 + 1 + 1) p qT 0 := by rw [← hm]
  rw [e, q0, q1, q2, q3, q4, q5, q6]
  simp only [bindS]
  unfold ql
  by_cases h1 : p < 100
  · simp [h1]
  · by_cases h2 : p < 500
    · simp [h1, h2]
    · by_cases h3 : p < 2000
      · simp [h1, h2, h3]
      · by_cases h4 : p < 5000
        · simp [h1, h2, h3, h4]
        · by_cases h5 : p < 10000
          · simp [h1, h2, h3, h4, h5]
          · by_cases h6 : p < 15000
            · simp [h1, h2, h3, h4, h5, h6]
            · simp [h1, h2, h3, h4, h5, h6]
theorem quiet_eq {N : Nat} (hN : 1000 ≤ N) (rate b : Int) (s : Bool) (g : List Int) : ∃ p e : Int, f40F N rate b s g = some ((), (p, (e, ()))) ∧ f41F N rate b s g = some ((), (p, (e, ()))) ∧ f18F N rate b s g = some ((), (if e = 0 then ql p else 0, (e, ()))) ∧ f19F N rate b s g = some ((), (if e = 0 then ql p else 0, (e, ()))) := by
  obtain ⟨h1, ⟨⟨⟩, p, e, ⟨⟩⟩, h2⟩ := p10.pitch_same hN rate b s g
  refine ⟨p, e, h2, by rw [← h1, h2], ?_, ?_⟩
  · unfold f18F
    rw [h2]
    by_cases he : e = 0
    · simp only [he, Option.bind_some, bne_self_eq_false, cond_false, if_true]
      exact f18l0_eq (by omega) p
    · have : (e != 0) = true := bne_iff_ne.2 he
      simp [he, this]
  · unfold f19F
    rw [← h1, h2]
    by_cases he : e = 0
    · simp only [he, Option.bind_some, bne_self_eq_false, cond_false, if_true, f42_eq]
    · have : (e != 0) = true := bne_iff_ne.2 he
      simp [he, this]
theorem psychoQuiet (n : Int × (Int × Unit)) (s : Bool) (g : List Int) : f5F 200000 n s g = some ((), (true, ())) := by
  unfold f5F
  rw [f11_eq (by omega) (by simp), awake12]
  obtain ⟨p, e, _, _, h3, h4⟩ := quiet_eq (N := 200000) (by omega) n.1 n.2.1 s g
  rw [h3, h4]
  cases ([g].all fun l => decide (l.length ≤ 300)) <;> simp
/-! ### Demands -/
noncomputable def tm (w e l : Int) : Int := if l < e then Int.tdiv (w * (p11.lv e - p11.lv l)) 512 else 0
noncomputable def dm (ws es ls : List Int) : Nat → Int
  | 0 => 0
  | i + 1 => dm ws es ls i + tm (ws.getD i 0) (es.getD i 0) (ls.getD i 0)
theorem tm_bound {w e l : Int} (hw : 0 ≤ w ∧ w ≤ 1000) (he : 0 ≤ e ∧ e ≤ 72057594037927936) (hl : 0 ≤ l ∧ l ≤ 72057594037927936) : 0 ≤ tm w e l ∧ tm w e l ≤ 100000 ∧ (l < e → 0 ≤ w * (p11.lv e - p11.lv l) ∧ w * (p11.lv e - p11.lv l) ≤ 16127000 ∧ 0 ≤ p11.lv e - p11.lv l ∧ p11.lv e - p11.lv l ≤ 16127) := by
  obtain ⟨_, _, a1, a2⟩ := p11.f48_log (N := 100) (Nat.le_refl _) he.1 (by omega)
  obtain ⟨_, _, b1, b2⟩ := p11.f48_log (N := 100) (Nat.le_refl _) hl.1 (by omega)
  have key : l < e → 0 ≤ w * (p11.lv e - p11.lv l) ∧ w * (p11.lv e - p11.lv l) ≤ 16127000 ∧ 0 ≤ p11.lv e - p11.lv l ∧ p11.lv e - p11.lv l ≤ 16127 := fun h => by
    have h1 := p11.lv_le hl.1 (show l ≤ e by omega) (by omega)
    have h2 : w * (p11.lv e - p11.lv l) ≤ 1000 * 16127 := Int.mul_le_mul hw.2 (by omega) (by omega) (by omega)
    exact ⟨Int.mul_nonneg hw.1 (by omega), by omega, by omega, by omega⟩
  refine ⟨?_, ?_, key⟩
  · unfold tm
    split
    · have := key (by assumption)
      rw [Int.tdiv_eq_ediv_of_nonneg this.1]; omega
    · omega
  · unfold tm
    split
    · have := key (by assumption)
      rw [Int.tdiv_eq_ediv_of_nonneg this.1]; omega
    · omega
theorem enOk_of {l : List Int} (h : l.all enOk = true) {i : Nat} (hi : i < l.length) : 0 ≤ l.getD i 0 ∧ l.getD i 0 ≤ 72057594037927936 := by
  have := List.all_eq_true.1 h _ (getD_mem (d := 0) hi)
  unfold enOk p11.enOk at this
  generalize l.getD i 0 = y at *
  simp at this
  omega
theorem dm_bound {ws es ls : List Int} (hw : ∀ i, i < ws.length → 0 ≤ ws.getD i 0 ∧ ws.getD i 0 ≤ 1000) (he : ∀ i, i < ws.length → 0 ≤ es.getD i 0 ∧ es.getD i 0 ≤ 72057594037927936) (hl : ∀ i, i < ws.length → 0 ≤ ls.getD i 0 ∧ ls.getD i 0 ≤ 72057594037927936) : ∀ i, i ≤ ws.length → 0 ≤ dm ws es ls i ∧ dm ws es ls i ≤ 100000 * i
  | 0, _ => by simp [dm]
  | i + 1, h => by
    have ih := dm_bound hw he hl i (by omega)
    have := tm_bound (hw i (by omega)) (he i (by omega)) (hl i (by omega))
    simp only [dm]
    omega
theorem f22l1_eq {N : Nat} (hN : 2000 ≤ N) {ws es ls : List Int} (hlen : ws.length ≤ 1000) (h1 : es.length = ws.length) (h2 : ls.length = ws.length) (hw : ∀ i, i < ws.length → 0 ≤ ws.getD i 0 ∧ ws.getD i 0 ≤ 1000) (he : ∀ i, i < ws.length → 0 ≤ es.getD i 0 ∧ es.getD i 0 ≤ 72057594037927936) (hl : ∀ i, i < ws.length → 0 ≤ ls.getD i 0 ∧ ls.getD i 0 ≤ 72057594037927936) : ∀ (k m i : Nat), i + k = ws.length →
    f22l1 N (m + k + 1) es ls (dm ws es ls i) ws ws.length i = some ((), (dm ws es ls ws.length, ())) := by
  intro k
  induction k with
  | zero =>
    intro m i h
    obtain rfl : i = ws.length := by omega
    simp [f22l1]
  | succ k ih =>
    intro m i h
    have ih' := ih m (i + 1) (by omega)
    rw [show m + (k + 1) + 1 = (m + k + 1) + 1 by omega]
    generalize m + k + 1 = M at ih' ⊢
    have c1 : (i : Int) < (ws.length : Int) := by omega
    have c2 : (i : Int) < (es.length : Int) := by omega
    have c3 : (i : Int) < (ls.length : Int) := by omega
    have hwi := hw i (by omega)
    have hei := he i (by omega)
    have hli := hl i (by omega)
    have hb := dm_bound hw he hl i (by omega)
    have ht := tm_bound hwi hei hli
    simp only [f22l1, c1, c2, c3, decide_true, cond_true, show (0 : Int) ≤ i by omega, Bool.and_self, Int.toNat_natCast]
    rw [w64s i (by omega)]
    by_cases hlt : ls.getD i 0 < es.getD i 0
    · have ht2 := ht.2.2 hlt
      have e56 : ∀ x : Int, 0 ≤ x → x ≤ 72057594037927936 → f56F N x = some ((), (p11.lv x, ())) := fun x h0 h1 => by
        unfold f56F
        rw [w64 (by omega) (by omega), (p11.f48_log (show 100 ≤ N by omega) h0 (by omega)).1]; rfl
      have e : tm (ws.getD i 0) (es.getD i 0) (ls.getD i 0) = Int.tdiv (ws.getD i 0 * (p11.lv (es.getD i 0) - p11.lv (ls.getD i 0))) 512 := by unfold tm; rw [if_pos hlt]
      simp only [hlt, decide_true, cond_true, e56 _ hei.1 hei.2, e56 _ hli.1 hli.2, Option.bind_some]
      rw [w64 (n := p11.lv (es.getD i 0) - p11.lv (ls.getD i 0)) (by omega) (by omega), w64 (n := ws.getD i 0 * (p11.lv (es.getD i 0) - p11.lv (ls.getD i 0))) (by omega) (by omega), ← e, w64 (n := tm (ws.getD i 0) (es.getD i 0) (ls.getD i 0)) (by omega) (by omega), w64 (n := dm ws es ls i + tm (ws.getD i 0) (es.getD i 0) (ls.getD i 0)) (by omega) (by omega), bindS]
      exact ih'
    · have e : dm ws es ls (i + 1) = dm ws es ls i := by
        simp only [dm, tm]; rw [if_neg hlt]; omega
      rw [e] at ih'
      simp only [hlt, decide_false, cond_false, bindS]
      exact ih'
theorem f23l0_eq {N : Nat} (hN : 2000 ≤ N) {ws es ls : List Int} (hlen : ws.length ≤ 1000) (h1 : es.length = ws.length) (h2 : ls.length = ws.length) (hw : ∀ i, i < ws.length → 0 ≤ ws.getD i 0 ∧ ws.getD i 0 ≤ 1000) (he : ∀ i, i < ws.length → 0 ≤ es.getD i 0 ∧ es.getD i 0 ≤ 72057594037927936) (hl : ∀ i, i < ws.length → 0 ≤ ls.getD i 0 ∧ ls.getD i 0 ≤ 72057594037927936) : ∀ (k m i : Nat), i + k = ws.length →
    f23l0 N (m + k + 1) es ls (dm ws es ls i) ws ws.length i = some ((), (dm ws es ls ws.length, ())) := by
  intro k
  induction k with
  | zero =>
    intro m i h
    obtain rfl : i = ws.length := by omega
    simp [f23l0]
  | succ k ih =>
    intro m i h
    have ih' := ih m (i + 1) (by omega)
    rw [show m + (k + 1) + 1 = (m + k + 1) + 1 by omega]
    generalize m + k + 1 = M at ih' ⊢
    have c1 : (i : Int) < (ws.length : Int) := by omega
    have c2 : (i : Int) < (es.length : Int) := by omega
    have c3 : (i : Int) < (ls.length : Int) := by omega
    have hwi := hw i (by omega)
    have hei := he i (by omega)
    have hli := hl i (by omega)
    have hb := dm_bound hw he hl i (by omega)
    have ht := tm_bound hwi hei hli
    simp only [f23l0, c1, c2, c3, decide_true, cond_true, show (0 : Int) ≤ i by omega, Bool.and_self, Int.toNat_natCast]
    rw [w64s i (by omega)]
    by_cases hlt : ls.getD i 0 < es.getD i 0
    · have ht2 := ht.2.2 hlt
      have e : tm (ws.getD i 0) (es.getD i 0) (ls.getD i 0) = Int.tdiv (ws.getD i 0 * (p11.lv (es.getD i 0) - p11.lv (ls.getD i 0))) 512 := by unfold tm; rw [if_pos hlt]
      rw [w64 (n := es.getD i 0 + 1) (by omega) (by omega), w64 (n := ls.getD i 0 + 1) (by omega) (by omega)]
      simp only [hlt, decide_true, cond_true, p11.f38_eq (show 100 ≤ N by omega) hei.1 (show _ ≤ (4611686018427387903 : Int) by omega), p11.f38_eq (show 100 ≤ N by omega) hli.1 (show _ ≤ (4611686018427387903 : Int) by omega), Option.bind_some]
      rw [w64 (n := p11.lv (es.getD i 0) - p11.lv (ls.getD i 0)) (by omega) (by omega), w64 (n := ws.getD i 0 * (p11.lv (es.getD i 0) - p11.lv (ls.getD i 0))) (by omega) (by omega), p03.f38_eq N (B := 16127000) (by omega) (by omega) (by omega) (by omega)]
      simp only [Option.bind_some]
      rw [← Int.tdiv_eq_ediv_of_nonneg ht2.1, ← e]
      have e2 : (if tm (ws.getD i 0) (es.getD i 0) (ls.getD i 0) > 0 then tm (ws.getD i 0) (es.getD i 0) (ls.getD i 0) else 0) = tm (ws.getD i 0) (es.getD i 0) (ls.getD i 0) := by split <;> omega
      rw [e2, w64 (n := dm ws es ls i + tm (ws.getD i 0) (es.getD i 0) (ls.getD i 0)) (by omega) (by omega), bindS]
      exact ih'
    · have e : dm ws es ls (i + 1) = dm ws es ls i := by
        simp only [dm, tm]; rw [if_neg hlt]; omega
      rw [e] at ih'
      simp only [hlt, decide_false, cond_false, bindS]
      exact ih'
/-- The errors of a demand. -/
def de (es ls : List Int) (s : Bool) (g : List Int) : Int :=
  if isDiv s g = true then (if es.length = (widths s g).length ∧ ls.length = (widths s g).length then (if (es.all enOk && ls.all enOk) = true then 0 else 6) else 4) else 1
theorem w_at {s : Bool} {g : List Int} (h : isDiv s g = true) : ∀ i, i < (widths s g).length → 0 ≤ (widths s g).getD i 0 ∧ (widths s g).getD i 0 ≤ 1000 := fun i hi => p10.widths_vals' h _ (getD_mem hi)
theorem f22_eq {N : Nat} (hN : 2000 ≤ N) (es ls : List Int) (s : Bool) (g : List Int) : f22F N es ls s g = some ((), (if de es ls s g = 0 then dm (widths s g) es ls (widths s g).length else 0, (de es ls s g, ()))) := by
  unfold f22F de
  rw [p10.f10_eq (by omega)]
  by_cases hd' : isDiv s g = true
  · have hd2 : p10.isDiv s g = true := hd'
    have hwl : (widths s g).length ≤ 32 := (p10.widths_len hd').1
    simp only [hd2, if_true, Option.bind_some, bne_self_eq_false, cond_false, show isDiv s g = true from hd']
    by_cases h1 : es.length = (widths s g).length
    · have c1 : ((es.length : Int) != ((p10.widths s g).length : Int)) = false := by rw [h1]; exact bne_self_eq_false _
      simp only [c1, cond_false, h1, true_and]
      by_cases h2 : ls.length = (widths s g).length
      · have c2 : ((ls.length : Int) != ((p10.widths s g).length : Int)) = false := by rw [h2]; exact bne_self_eq_false _
        simp only [c2, cond_false, h2, if_true]
        rw [f55_eq hN (by omega) (by omega)]
        cases hb : (es.all enOk && ls.all enOk) with
        | false => simp
        | true =>
          obtain ⟨b1, b2⟩ := Bool.and_eq_true_iff.1 hb
          obtain ⟨m, hm⟩ : ∃ m, N = m + (widths s g).length + 1 := ⟨N - (widths s g).length - 1, by omega⟩
          have := f22l1_eq hN (ws := widths s g) (by omega) h1 h2 (w_at hd') (fun i hi => enOk_of b1 (by omega)) (fun i hi => enOk_of b2 (by omega)) (widths s g).length m 0 (by omega)
          rw [← hm, show ((0 : Nat) : Int) = 0 from rfl, show dm (widths s g) es ls 0 = 0 from rfl] at this
          simp only [Option.bind_some, Bool.not_true, cond_false, if_true]
          rw [show f22l1 N N es ls 0 (p10.widths s g) ((p10.widths s g).length : Int) 0 = _ from this]
          simp only [show (((widths s g).length : Int) != ((p10.widths s g).length : Int)) = false from bne_self_eq_false _, cond_false]
          rfl
      · have c2 : ((ls.length : Int) != ((p10.widths s g).length : Int)) = true := bne_iff_ne.2 (by have : ls.length ≠ (p10.widths s g).length := h2; omega)
        simp [c2, h2]
    · have c1 : ((es.length : Int) != ((p10.widths s g).length : Int)) = true := bne_iff_ne.2 (by have : es.length ≠ (p10.widths s g).length := h1; omega)
      simp [c1, h1]
  · have hd2 : p10.isDiv s g = false := by simpa using hd'
    simp [hd2, hd']
theorem f23_eq {N : Nat} (hN : 2000 ≤ N) (es ls : List Int) (s : Bool) (g : List Int) : f23F N es ls s g = some ((), (if de es ls s g = 0 then dm (widths s g) es ls (widths s g).length else 0, (de es ls s g, ()))) := by
  unfold f23F de
  rw [p10.f23_eq (by omega)]
  by_cases hd' : isDiv s g = true
  · have hd2 : p10.isDiv s g = true := hd'
    have hwl : (widths s g).length ≤ 32 := (p10.widths_len hd').1
    rw [p10.f31_eq (by omega) hd2]
    simp only [hd2, if_true, Option.bind_some, Bool.not_true, cond_false, show isDiv s g = true from hd']
    by_cases h1 : es.length = (widths s g).length
    · have c1 : ((es.length : Int) != ((p10.widths s g).length : Int)) = false := by rw [h1]; exact bne_self_eq_false _
      simp only [c1, cond_false, h1, true_and]
      by_cases h2 : ls.length = (widths s g).length
      · have c2 : ((ls.length : Int) != ((p10.widths s g).length : Int)) = false := by rw [h2]; exact bne_self_eq_false _
        simp only [c2, cond_false, h2, if_true]
        rw [f32_eq (by omega) hN, f32_eq (by omega) hN]
        cases b1 : es.all enOk with
        | false => simp
        | true =>
          cases b2 : ls.all enOk with
          | false => simp
          | true =>
            obtain ⟨m, hm⟩ : ∃ m, N = m + (widths s g).length + 1 := ⟨N - (widths s g).length - 1, by omega⟩
            have := f23l0_eq hN (ws := widths s g) (by omega) h1 h2 (w_at hd') (fun i hi => enOk_of b1 (by omega)) (fun i hi => enOk_of b2 (by omega)) (widths s g).length m 0 (by omega)
            rw [← hm, show ((0 : Nat) : Int) = 0 from rfl, show dm (widths s g) es ls 0 = 0 from rfl] at this
            simp only [Option.bind_some, Bool.not_true, cond_false, Bool.and_self, if_true]
            rw [show f23l0 N N es ls 0 (p10.widths s g) ((p10.widths s g).length : Int) 0 = _ from this]
            simp only [show (((widths s g).length : Int) != ((p10.widths s g).length : Int)) = false from bne_self_eq_false _, cond_false]
            rfl
      · have c2 : ((ls.length : Int) != ((p10.widths s g).length : Int)) = true := bne_iff_ne.2 (by have : ls.length ≠ (p10.widths s g).length := h2; omega)
        simp [c2, h2]
    · have c1 : ((es.length : Int) != ((p10.widths s g).length : Int)) = true := bne_iff_ne.2 (by have : es.length ≠ (p10.widths s g).length := h1; omega)
      simp [c1, h1]
  · have hd2 : p10.isDiv s g = false := by simpa using hd'
    simp [hd2, hd']
/-! ### Heard, in general -/
def he (a lim : List Int) : Int := if 32 < a.length ∨ 32 < lim.length then 2 else if a.length ≠ lim.length then 4 else if (a.all enOk && lim.all enOk) = true then 0 else 6
theorem f24_gen {N : Nat} (hN : 2000 ≤ N) (a lim : List Int) : f24F N a lim = some ((if he a lim = 0 then hd a lim else [], ()), ((), (he a lim, ()))) := by
  by_cases h1 : 32 < a.length ∨ 32 < lim.length
  · have c1 : 32 < (if (lim.length : Int) > (a.length : Int) then (lim.length : Int) else (a.length : Int)) := by split <;> omega
    have e : he a lim = 2 := by unfold he; rw [if_pos h1]
    rw [e]
    unfold f24F
    simp only [c1, decide_true, cond_true]
    rfl
  · by_cases h2 : a.length = lim.length
    · have e : he a lim = if (a.all enOk && lim.all enOk) = true then 0 else 6 := by
        unfold he
        rw [if_neg h1, if_neg (fun h => h h2)]
      rw [f24_eq hN h2.symm (by omega), e]
      cases (a.all enOk && lim.all enOk) <;> rfl
    · have c1 : ¬ 32 < (if (lim.length : Int) > (a.length : Int) then (lim.length : Int) else (a.length : Int)) := by split <;> omega
      have c2 : ((a.length : Int) != (lim.length : Int)) = true := bne_iff_ne.2 (by omega)
      have e : he a lim = 4 := by
        unfold he
        rw [if_neg h1, if_pos h2]
      rw [e]
      unfold f24F
      simp only [c1, c2, decide_false, cond_false, cond_true]
      rfl
theorem f25l1_eq {N : Nat} {a lim : List Int} (hl : lim.length = a.length) (ha : a.length ≤ 1000) : ∀ (k m i : Nat), i + k = a.length → f25l1 N (m + k + 1) ((List.range i).map fun b => decide (lim.getD b 0 < a.getD b 0)) a lim a.length i = some ((hd a lim, ()), ((), ())) := by
  intro k
  induction k with
  | zero =>
    intro m i h
    obtain rfl : i = a.length := by omega
    simp [f25l1, hd]
  | succ k ih =>
    intro m i h
    have ih' := ih m (i + 1) (by omega)
    rw [show m + (k + 1) + 1 = (m + k + 1) + 1 by omega]
    generalize m + k + 1 = M at ih' ⊢
    have c1 : (i : Int) < (a.length : Int) := by omega
    have c2 : (i : Int) < (lim.length : Int) := by omega
    have hb : (i + 1) * 1 ≤ 140737488355328 := by omega
    rw [List.range_succ, List.map_append] at ih'
    simp only [f25l1, c1, c2, decide_true, cond_true, show (0 : Int) ≤ i by omega, Bool.and_self, Int.toNat_natCast, List.length_map, List.length_range, List.length_cons, List.length_nil, Nat.zero_add, hb]
    rw [w64s i (by omega), bindS]
    exact ih'
theorem f25_gen {N : Nat} (hN : 2000 ≤ N) (a lim : List Int) : f25F N a lim = some ((if he a lim = 0 then hd a lim else [], ()), ((), (he a lim, ()))) := by
  by_cases h1 : 32 < a.length ∨ 32 < lim.length
  · have e : he a lim = 2 := by unfold he; rw [if_pos h1]
    rw [e]
    unfold f25F
    by_cases h3 : 32 < a.length
    · have c1 : 32 < (a.length : Int) := by omega
      simp only [c1, decide_true, cond_true]
      rfl
    · have c1 : ¬ 32 < (a.length : Int) := by omega
      have c1' : 32 < (lim.length : Int) := by omega
      simp only [c1, c1', decide_true, decide_false, cond_true, cond_false]
      rfl
  · have c1 : ¬ 32 < (a.length : Int) := by omega
    have c1' : ¬ 32 < (lim.length : Int) := by omega
    by_cases h2 : a.length = lim.length
    · have e : he a lim = if (a.all enOk && lim.all enOk) = true then 0 else 6 := by
        unfold he
        rw [if_neg h1, if_neg (fun h => h h2)]
      have c2 : ((a.length : Int) != (lim.length : Int)) = false := by rw [h2]; exact bne_self_eq_false _
      rw [e]
      unfold f25F
      simp only [c1, c1', c2, decide_false, cond_false]
      rw [f32_eq (by omega) hN, f32_eq (by omega) hN]
      cases b1 : a.all enOk with
      | false => rfl
      | true =>
        cases b2 : lim.all enOk with
        | false => rfl
        | true =>
          obtain ⟨m, hm⟩ : ∃ m, N = m + a.length + 1 := ⟨N - a.length - 1, by omega⟩
          have := f25l1_eq (N := N) h2.symm (by omega) a.length m 0 (by omega)
          rw [← hm, show ((0 : Nat) : Int) = 0 from rfl, List.range_zero, List.map_nil] at this
          simp only [Option.bind_some, Bool.not_true, cond_false]
          rw [this]; rfl
    · have c2 : ((a.length : Int) != (lim.length : Int)) = true := bne_iff_ne.2 (by omega)
      have e : he a lim = 4 := by
        unfold he
        rw [if_neg h1, if_pos h2]
      rw [e]
      unfold f25F
      simp only [c1, c1', c2, decide_false, cond_false, cond_true]
      rfl
theorem bools_self {a : List Bool} (h : a.length ≤ 1000) : f26F 200000 a a = some ((), (true, ())) := by
  have h := range_fold (l := a) false (f := fun n (_ : Unit) i => f26l0 200000 n a a a.length i) (step := fun _ _ => ()) (fun _ _ => True) (fin := fun _ => some (.inl ((), ()))) (fun n i s hi _ => by
    have c1 : (i : Int) < (a.length : Int) := by omega
    refine ⟨?_, trivial⟩
    simp only [f26l0, c1, decide_true, cond_true, show (0 : Int) ≤ i by omega, Bool.and_self, Int.toNat_natCast, beq_self_eq_true, Bool.not_true, cond_false]
    rw [w64s i (by omega), bindS]) (fun n s _ => by simp [f26l0]) 200000 () (by omega) trivial
  unfold f26F
  rw [bne_self_eq_false, cond_false, h]; rfl
theorem psychoDemands (es ls : List Int) (p : Bool × (List Int × Unit)) : f7F 200000 es ls p = some ((), (true, ())) := by
  unfold f7F
  rw [f11_eq (by omega) (by simp), awake12, f22_eq (by omega), f23_eq (by omega), f24_gen (by omega), f25_gen (by omega)]
  have hl : (if he es ls = 0 then hd es ls else []).length ≤ 1000 := by
    split
    · rename_i h
      unfold he at h
      split at h
      · cases h
      · rw [hd_len]; omega
    · simp
  simp only [Option.bind_some, bools_self hl]
  cases ([es, ls, p.2.1].all fun l => decide (l.length ≤ 300)) <;> simp
/-! ### PsychoLouder -/
theorem tm_mono {w e e' l : Int} (hw : 0 ≤ w ∧ w ≤ 1000) (he : 0 ≤ e ∧ e ≤ 72057594037927936) (he' : 0 ≤ e') (hee : e' ≤ e) (hl : 0 ≤ l ∧ l ≤ 72057594037927936) : tm w e' l ≤ tm w e l := by
  have h1 := tm_bound hw he hl
  by_cases h : l < e'
  · have h2 := (tm_bound hw ⟨he', by omega⟩ hl).2.2 h
    have h3 := h1.2.2 (by omega)
    have h4 := p11.lv_le he' hee (by omega)
    have h5 : w * (p11.lv e' - p11.lv l) ≤ w * (p11.lv e - p11.lv l) := Int.mul_le_mul_of_nonneg_left (by omega) hw.1
    unfold tm
    rw [if_pos h, if_pos (by omega), Int.tdiv_eq_ediv_of_nonneg h2.1, Int.tdiv_eq_ediv_of_nonneg h3.1]
    omega
  · have : tm w e' l = 0 := by unfold tm; rw [if_neg h]
    omega
theorem dm_mono {ws es es' ls : List Int} (hw : ∀ i, i < ws.length → 0 ≤ ws.getD i 0 ∧ ws.getD i 0 ≤ 1000) (he : ∀ i, i < ws.length → 0 ≤ es.getD i 0 ∧ es.getD i 0 ≤ 72057594037927936) (hl : ∀ i, i < ws.length → 0 ≤ ls.getD i 0 ∧ ls.getD i 0 ≤ 72057594037927936) (hee : ∀ i, i < ws.length → 0 ≤ es'.getD i 0 ∧ es'.getD i 0 ≤ es.getD i 0) : ∀ i, i ≤ ws.length → dm ws es' ls i ≤ dm ws es ls i
  | 0, _ => by simp [dm]
  | i + 1, h => by
    have ih := dm_mono hw he hl hee i (by omega)
    have := tm_mono (hw i (by omega)) (he i (by omega)) (hee i (by omega)).1 (hee i (by omega)).2 (hl i (by omega))
    simp only [dm]
    omega
theorem f10l0_eq {N : Nat} {es less : List Int} (hle : es.length ≤ 1000) (hes : ∀ i, i < es.length → 0 ≤ es.getD i 0) (hm : ∀ x ∈ less, 0 ≤ x ∧ x ≤ 255) : ∀ (k m i : Nat) (v : List Int), i + k = es.length → v.length = es.length → (∀ j, j < es.length → 0 ≤ v.getD j 0 ∧ v.getD j 0 ≤ es.getD j 0) →
    ∃ r : List Int, f10l0 N (m + k + 1) v less es.length i = some ((r, ()), ((), ())) ∧ r.length = es.length ∧ ∀ j, j < es.length → 0 ≤ r.getD j 0 ∧ r.getD j 0 ≤ es.getD j 0 := by
  intro k
  induction k with
  | zero =>
    intro m i v h hv hp
    obtain rfl : i = es.length := by omega
    exact ⟨v, by simp [f10l0], hv, hp⟩
  | succ k ih =>
    intro m i v h hv hp
    have ih' := fun v => ih m (i + 1) v (by omega)
    rw [show m + (k + 1) + 1 = (m + k + 1) + 1 by omega]
    generalize m + k + 1 = M at ih' ⊢
    have c1 : (i : Int) < (es.length : Int) := by omega
    have c2 : (i : Int) < (v.length : Int) := by omega
    simp only [f10l0, c1, decide_true, cond_true]
    rw [w64s i (by omega)]
    by_cases hmi : (i : Int) < (less.length : Int)
    · have hy := hm _ (getD_mem (l := less) (i := i) (d := 0) (by omega))
      have hy2 : ¬ Int.tmod (less.getD i 0) 64 < 0 := by have := Int.tmod_nonneg 64 hy.1; omega
      have hvi := hp i (by omega)
      have hsh : 0 ≤ Int.fdiv (v.getD i 0) (2 ^ min (Int.toNat (Int.tmod (less.getD i 0) 64)) 64) ∧ Int.fdiv (v.getD i 0) (2 ^ min (Int.toNat (Int.tmod (less.getD i 0) 64)) 64) ≤ v.getD i 0 := by
        rw [p03.fdiv2]
        have := p03.pow2 (min (Int.toNat (Int.tmod (less.getD i 0) 64)) 64)
        exact ⟨Int.ediv_nonneg hvi.1 (by omega), Int.ediv_le_self _ hvi.1⟩
      simp only [hmi, c2, hy2, Int.toNat_natCast, decide_true, decide_false, cond_true, show (0 : Int) ≤ i by omega, Bool.and_self, Bool.not_false, bindS]
      refine ih' _ (by simp [hv]) (fun j hj => ?_)
      rw [p11.set_getD _ _ _ _ (by omega)]
      by_cases hji : j = i
      · subst hji; rw [if_pos rfl]; omega
      · rw [if_neg hji]; exact hp j hj
    · simp only [hmi, decide_false, cond_false, bindS]
      exact ih' v hv hp
theorem f10l2_eq {N : Nat} (hN : 2000 ≤ N) {x y : List Bool} (hl : y.length = x.length) (hx : x.length ≤ 1000) (h : ∀ i, i < x.length → y.getD i false = true → x.getD i false = true) : f10l2 N N x y x.length 0 = some (.inl ((), ())) := by
  have h := range_fold (l := x) false (f := fun n (_ : Unit) i => f10l2 N n x y x.length i) (step := fun _ _ => ()) (fun _ _ => True) (fin := fun _ => some (.inl ((), ()))) (fun n i s hi _ => by
    have c1 : (i : Int) < (x.length : Int) := by omega
    have c2 : (i : Int) < (y.length : Int) := by omega
    refine ⟨?_, trivial⟩
    simp only [f10l2, c1, c2, decide_true, cond_true, show (0 : Int) ≤ i by omega, Bool.and_self, Int.toNat_natCast]
    rw [w64s i (by omega)]
    cases hy : y.getD i false with
    | false => simp only [cond_false, bindS]
    | true => simp only [h i hi hy, cond_true, Bool.not_true, cond_false, bindS]) (fun n s _ => by simp [f10l2]) N () (by omega) trivial
  exact h
end Go.Sh.c12

namespace Go.Sh.c12

theorem de_len {es ls : List Int} {s : Bool} {g : List Int} (h : de es ls s g = 0) : isDiv s g = true ∧ es.length = (widths s g).length ∧ ls.length = (widths s g).length ∧ es.all enOk = true ∧ ls.all enOk = true := by
  unfold de at h
  split at h
  · split at h
    · split at h
      · rename_i h1 h2 h3
        obtain ⟨a, b⟩ := Bool.and_eq_true_iff.1 h3
        exact ⟨h1, h2.1, h2.2, a, b⟩
      · cases h
    · cases h
  · cases h
theorem louder_block (es ls less : List Int) (hm : ∀ x ∈ less, 0 ≤ x ∧ x ≤ 255) (s : Bool) (g : List Int) :
    ((f22F 200000 es ls s g).bind fun y4 =>
      bif (y4.2.2.1 != 0) then (
       bif (y4.2.1 == 0) then (
        (f12F 200000).bind fun y5 =>
        some ((), (y5.2.1, ())))
       else (
        some ((), (false, ()))))
      else (
       bif (decide ((List.length ([] : List Int) + List.length es) * 8 ≤ 140737488355328)) then (
        (f10l0 200000 200000 (List.append ([] : List Int) es) less ((List.length (List.append ([] : List Int) es) : Nat) : Int) 0).bind fun y6 =>
        (f22F 200000 y6.1.1 ls s g).bind fun y7 =>
        (f24F 200000 es ls).bind fun y8 =>
        (f24F 200000 y6.1.1 ls).bind fun y9 =>
        bif (y7.2.2.1 != 0) then (
         some ((), (false, ())))
        else (
         bif (y8.2.2.1 != 0) then (
          some ((), (false, ())))
         else (
          bif (y9.2.2.1 != 0) then (
           some ((), (false, ())))
          else (
           bif (((List.length y8.1.1 : Nat) : Int) != ((List.length es : Nat) : Int)) then (
            some ((), (false, ())))
           else (
            bif (((List.length y9.1.1 : Nat) : Int) != ((List.length y8.1.1 : Nat) : Int)) then (
             some ((), (false, ())))
            else (
             bif (decide (y4.2.1 < y7.2.1)) then (
              some ((), (false, ())))
             else (
              bif (decide (y7.2.1 < 0)) then (
               some ((), (false, ())))
              else (
               (f10l2 200000 200000 y8.1.1 y9.1.1 ((List.length y8.1.1 : Nat) : Int) 0).bind fun y10 =>
               Sum.elim (fun u11 =>
                 (f12F 200000).bind fun y13 =>
                 some ((), (y13.2.1, ())))
                (fun w12 =>
                 some ((), (w12.2.1, ()))) y10))))))))
       else (
        none))) = some ((), (true, ())) := by
  rw [f22_eq (by omega), awake12]
  by_cases h : de es ls s g = 0
  · obtain ⟨d1, d2, d3, d4, d5⟩ := de_len h
    have hwl : (widths s g).length ≤ 32 := (p10.widths_len d1).1
    have hes : ∀ i, i < es.length → 0 ≤ es.getD i 0 ∧ es.getD i 0 ≤ 72057594037927936 := fun i hi => enOk_of d4 hi
    obtain ⟨m, hmm⟩ : ∃ m, 200000 = m + es.length + 1 := ⟨200000 - es.length - 1, by omega⟩
    obtain ⟨r, r1, r2, r3⟩ := f10l0_eq (N := 200000) (es := es) (by omega) (fun i hi => (hes i hi).1) hm es.length m 0 es (by omega) rfl (fun j hj => ⟨(hes j hj).1, Int.le_refl _⟩)
    rw [← hmm, show ((0 : Nat) : Int) = 0 from rfl] at r1
    have hrok : r.all enOk = true := by
      rw [List.all_eq_true]
      intro x hx
      obtain ⟨q, hq, rfl⟩ := List.mem_iff_getElem.1 hx
      have h1 := r3 q (by omega)
      have h2 := hes q (by omega)
      have h3 : r.getD q 0 = r[q] := by simp [List.getD, List.getElem?_eq_getElem hq]
      rw [h3] at h1
      have c1 : ¬ r[q] < 0 := by omega
      have c2 : ¬ 72057594037927936 < r[q] := by omega
      simp [enOk, p11.enOk, c1, c2]
    have hde : de r ls s g = 0 := by
      unfold de
      rw [if_pos d1, if_pos ⟨by omega, d3⟩, hrok, d5]; rfl
    have hhe : he es ls = 0 := by
      unfold he
      rw [if_neg (by omega), if_neg (by omega), d4, d5]; rfl
    have hhr : he r ls = 0 := by
      unfold he
      rw [if_neg (by omega), if_neg (by omega), hrok, d5]; rfl
    have hls : ∀ i, i < (widths s g).length → 0 ≤ ls.getD i 0 ∧ ls.getD i 0 ≤ 72057594037927936 := fun i hi => enOk_of d5 (by omega)
    have hmono := dm_mono (w_at d1) (fun i hi => hes i (by omega)) hls (fun i hi => r3 i (by omega)) _ (Nat.le_refl _)
    have hpos := (dm_bound (w_at d1) (fun i hi => ⟨(r3 i (by omega)).1, by have := r3 i (by omega); have := hes i (by omega); omega⟩) hls _ (Nat.le_refl _)).1
    have hb : (([] : List Int).length + es.length) * 8 ≤ 140737488355328 := by simp; omega
    have hl2 : f10l2 200000 200000 (hd es ls) (hd r ls) (hd es ls).length 0 = some (.inl ((), ())) := f10l2_eq (by omega) (by rw [hd_len, hd_len, r2]) (by rw [hd_len]; omega) (fun i hi hy => by
      rw [hd_len] at hi
      rw [hd_at (by omega)] at hy
      rw [hd_at hi]
      have h1 := r3 i hi
      have h2 : ls.getD i 0 < r.getD i 0 := of_decide_eq_true hy
      exact decide_eq_true (by omega))
    have n1 : ¬ dm (widths s g) es ls (widths s g).length < dm (widths s g) r ls (widths s g).length := by omega
    have n2 : ¬ dm (widths s g) r ls (widths s g).length < 0 := by omega
    simp only [h, if_true, Option.bind_some, bne_self_eq_false, cond_false, hb, decide_true, cond_true]
    rw [show List.append ([] : List Int) es = es from rfl, r1]
    simp only [Option.bind_some]
    rw [f22_eq (by omega), f24_gen (by omega), f24_gen (by omega)]
    simp only [hde, hhe, hhr, if_true, Option.bind_some, bne_self_eq_false, cond_false, hd_len, r2, n1, n2, decide_false]
    rw [hd_len] at hl2
    rw [hl2]; rfl
  · have h' : (de es ls s g != 0) = true := bne_iff_ne.2 h
    simp [h, h']
theorem psychoLouder (es : List Int) (_ : Fit (.list (.int .i64)) es) (ls : List Int) (_ : Fit (.list (.int .i64)) ls) (less : List Int) (fm : Fit (.list (.int .u8)) less) : f10F 200000 es ls less = some ((), (true, ())) := by
  have hm : ∀ x ∈ less, 0 ≤ x ∧ x ≤ 255 := fun x hx => by
    have h0 : Fit (.int .u8) x := fm x hx
    have h1 : decide (IntKind.u8.min ≤ x ∧ x ≤ IntKind.u8.max) = true := by simpa [Fit, Lit.wf] using h0
    exact of_decide_eq_true h1
  unfold f10F
  rw [f11_eq (by omega) (by simp)]
  simp only [louder_block es ls less hm]
  rw [awake12]
  cases ([es, ls].all fun l => decide (l.length ≤ 300)) with
  | false => simp
  | true =>
    simp only [Option.bind_some, Bool.not_true, cond_false]
    cases ((es.length : Int) == 0) <;> cases ((es.length : Int) == 8) <;> cases (!((es.length : Int) != 15)) <;> rfl
end Go.Sh.c12

namespace Go.Sh.c12

theorem f43_eq {N : Nat} (hN : 2000 ≤ N) (rate : Int) : f43F N rate = some ((), (decide (rate ∈ p10.rates), ())) := by
  unfold f43F f40F
  rw [p10.f28_eq (by omega)]
  have hd : p10.isDiv false [] = true := rfl
  simp only [hd, if_true, Option.bind_some, bne_self_eq_false, cond_false]
  rw [show ([8000, 11025, 12000, 16000, 22050, 24000, 32000, 44100, 48000] : List Int) = p10.rates from rfl, p10.f35_eq (by omega)]
  by_cases hr : rate ∈ p10.rates
  · have h36 := p10.f36_eq (N := N) (by omega) (l := p10.widths false []) (by decide) (p10.widths_vals' hd) (b := 0) (by decide)
    rw [show ((0 : Nat) : Int) = 0 from rfl] at h36
    have c1 : ¬ ((p10.widths false []).length : Int) ≤ 0 := by decide
    simp only [hr, decide_true, Option.bind_some, Bool.not_true, cond_false, p10.f30_eq (show 1000 ≤ N by omega) hd, c1, decide_false, h36]
    rfl
  · simp [hr]
/-- The level in quiet, as the code has it. -/
noncomputable def qv (rate : Int) (b : Nat) (s : Bool) (g : List Int) : Int := ((f18F 200000 rate b s g).map fun y => y.2.1).getD 0
theorem qv_eq (rate : Int) (b : Nat) (s : Bool) (g : List Int) : ∃ e : Int, f18F 200000 rate b s g = some ((), (qv rate b s g, (e, ()))) ∧ f19F 200000 rate b s g = some ((), (qv rate b s g, (e, ()))) ∧ 0 ≤ qv rate b s g ∧ qv rate b s g ≤ 3072 := by
  obtain ⟨p, e, _, _, h3, h4⟩ := quiet_eq (N := 200000) (by omega) rate b s g
  have hq : qv rate b s g = if e = 0 then ql p else 0 := by unfold qv; rw [h3]; rfl
  refine ⟨e, by rw [hq, h3], by rw [hq, h4], ?_, ?_⟩
  · rw [hq]; unfold ql; repeat' split
    all_goals omega
  · rw [hq]; unfold ql; repeat' split
    all_goals omega
/-- The level of a limit, and the limit. -/
noncomputable def ll (rate q : Int) (s : Bool) (g S T : List Int) (b : Nat) : Int :=
  if S.getD b 0 - 256 - 3 * T.getD b 0 - 128 * q > qv rate b s g + p11.lv ((widths s g).getD b 0 - 1) then S.getD b 0 - 256 - 3 * T.getD b 0 - 128 * q else qv rate b s g + p11.lv ((widths s g).getD b 0 - 1)
noncomputable def lim (l : Int) : Int := if l < 0 then 1 else p03.expv l.toNat
theorem expv_zero : p03.expv 0 = 1 := by
  have := p03.expv_pow 0
  simpa using this
theorem lim_mono {a b : Int} (h : a ≤ b) : lim a ≤ lim b := by
  unfold lim
  by_cases ha : a < 0
  · rw [if_pos ha]
    split
    · omega
    · have := p03.expv_le (show 0 ≤ b.toNat by omega)
      rw [expv_zero] at this
      exact this
  · rw [if_neg ha, if_neg (by omega)]
    exact p03.expv_le (by omega)
theorem lim_pos (a : Int) : 1 ≤ lim a := by
  unfold lim
  split
  · omega
  · have := p03.expv_le (show 0 ≤ a.toNat by omega)
    rw [expv_zero] at this
    exact this
/-- What is known of the lists of a good spectrum. -/
structure Lists (s : Bool) (g S T : List Int) : Prop where
  d : isDiv s g = true
  sl : S.length = (widths s g).length
  tl : T.length = (widths s g).length
  sv : ∀ b, b < (widths s g).length → 0 ≤ S.getD b 0 ∧ S.getD b 0 ≤ 15872
  tv : ∀ b, b < (widths s g).length → 0 ≤ T.getD b 0 ∧ T.getD b 0 ≤ 255
theorem w_lv {s : Bool} {g : List Int} (h : isDiv s g = true) {b : Nat} (hb : b < (widths s g).length) : 1 ≤ (widths s g).getD b 0 ∧ (widths s g).getD b 0 ≤ 64 ∧ 0 ≤ p11.lv ((widths s g).getD b 0 - 1) ∧ p11.lv ((widths s g).getD b 0 - 1) ≤ 1536 := by
  obtain ⟨h1, h2⟩ := p10.widths_vals h _ (getD_mem (d := 0) hb)
  have h1' : 1 ≤ (widths s g).getD b 0 := h1
  have h2' : (widths s g).getD b 0 ≤ 64 := h2
  have h3 := (p11.f48_log (N := 100) (Nat.le_refl _) (n := (widths s g).getD b 0 - 1) (by omega) (by omega)).2.2.1
  have h4 := p11.lv_le (a := (widths s g).getD b 0 - 1) (b := 2 ^ 6 - 1) (by omega) (by omega) (by omega)
  rw [p11.lv_pow] at h4
  exact ⟨h1', h2', h3, by simpa using h4⟩
theorem ll_bound {rate q : Int} {s : Bool} {g S T : List Int} (L : Lists s g S T) (hq : 0 ≤ q ∧ q ≤ 10) {b : Nat} (hb : b < (widths s g).length) : 0 ≤ ll rate q s g S T b ∧ ll rate q s g S T b ≤ 15616 := by
  obtain ⟨_, _, _, q1, q2⟩ := qv_eq rate b s g
  obtain ⟨w1, w2, w3, w4⟩ := w_lv L.d hb
  have := L.sv b hb
  have := L.tv b hb
  unfold ll
  split <;> omega
theorem f77_raw (m : Nat) (a b : Int) : f77F (m + 1 + 1 + 1) [a, b] = some ((), (if b > (if a > a then a else a) then b else (if a > a then a else a), ())) := by kernel_rfl
theorem f77_two {N : Nat} (hN : 10 ≤ N) (a b : Int) : f77F N [a, b] = some ((), (if b > a then b else a, ())) := by
  obtain ⟨m, rfl⟩ : ∃ m, N = m + 1 + 1 + 1 := ⟨N - 3, by omega⟩
  rw [f77_raw]
  have : (if a > a then a else a) = a := by split <;> rfl
  rw [this]
theorem f75_eq {rate q : Int} {s : Bool} {g S T : List Int} (L : Lists s g S T) (hq : 0 ≤ q ∧ q ≤ 10) {b : Nat} (hb : b < (widths s g).length) : f75F 200000 b (widths s g, (S, (T, (rate, (q, (s, (g, ()))))))) = some ((), (ll rate q s g S T b, ())) := by
  obtain ⟨e, e1, _, q1, q2⟩ := qv_eq rate b s g
  obtain ⟨w1, w2, w3, w4⟩ := w_lv L.d hb
  have hs := L.sv b hb
  have ht := L.tv b hb
  have c1 : (b : Int) < ((widths s g).length : Int) := by omega
  have c2 : (b : Int) < (S.length : Int) := by rw [L.sl]; omega
  have c3 : (b : Int) < (T.length : Int) := by rw [L.tl]; omega
  have h76 := (p11.f48_log (N := 200000) (by omega) (n := (widths s g).getD b 0 - 1) (by omega) (by omega)).1
  rw [show (widths s g).getD b 0 - 1 + 1 = (widths s g).getD b 0 by omega] at h76
  unfold f75F
  simp only [e1, Option.bind_some, c1, c2, c3, decide_true, cond_true, show (0 : Int) ≤ (b : Int) by omega, Bool.and_self, Int.toNat_natCast, h76]
  rw [w64 (n := qv rate b s g + p11.lv ((widths s g).getD b 0 - 1)) (by omega) (by omega), w64 (n := S.getD b 0 - 256) (by omega) (by omega), w64 (n := 3 * T.getD b 0) (by omega) (by omega), w64 (n := S.getD b 0 - 256 - 3 * T.getD b 0) (by omega) (by omega), w64 (n := 128 * q) (by omega) (by omega), w64 (n := S.getD b 0 - 256 - 3 * T.getD b 0 - 128 * q) (by omega) (by omega), f77_two (by omega)]
  rfl
/-- The limits. -/
noncomputable def lims (rate q : Int) (s : Bool) (g S T : List Int) (i k : Nat) : List Int := (List.range' i k).map fun b => lim (ll rate q s g S T b)
section
variable {sT : Ty} {step : (Int × Unit) → sT.den → Option (Bool × sT.den)}
theorem i78l0_eq {rate q : Int} {s : Bool} {g S T : List Int} (L : Lists s g S T) (hq : 0 ≤ q ∧ q ≤ 10) (u : Unit × Unit) : ∀ (k m i : Nat) (x : sT.den), i + k = (widths s g).length →
    i78l0 200000 sT step (m + k + 1) ((), ((widths s g, (S, (T, (rate, (q, (s, (g, ()))))))), ())) (widths s g).length i x = (runL step ((lims rate q s g S T i k).map fun y => (y, ())) x).map fun q => (q.1, inOut ((), ()) ((), ()) q.2) := by
  have hwl : (widths s g).length ≤ 32 := (p10.widths_len L.d).1
  intro k
  induction k with
  | zero =>
    intro m i x h
    have h1 : ¬ (i : Int) < ((widths s g).length : Int) := by omega
    simp [i78l0, h1, lims, runL, inOut]
  | succ k ih =>
    intro m i x h
    have ih' := fun x => ih m (i + 1) x (by omega)
    rw [show m + (k + 1) + 1 = (m + k + 1) + 1 by omega]
    generalize m + k + 1 = M at ih' ⊢
    have hb : i < (widths s g).length := by omega
    have h1 : (i : Int) < ((widths s g).length : Int) := by omega
    obtain ⟨l1, l2⟩ := ll_bound (rate := rate) L hq hb
    obtain ⟨t, ht⟩ : ∃ t : Nat, ll rate q s g S T i = t := ⟨(ll rate q s g S T i).toNat, by omega⟩
    have hexp := (p03.f30_exp (N := 200000) (by omega) (t := t) (by omega)).1
    have hlim : lim (ll rate q s g S T i) = p03.expv t := by
      unfold lim; rw [if_neg (by omega), ht]; rfl
    have hl : lims rate q s g S T i (k + 1) = lim (ll rate q s g S T i) :: lims rate q s g S T (i + 1) k := by
      unfold lims; rw [List.range'_succ]; rfl
    rw [hl]
    simp only [i78l0, h1, decide_true, cond_true, f75_eq L hq hb, Option.bind_some, List.map_cons, runL]
    rw [ht, hexp]
    rw [ht] at hlim
    rw [hlim]
    simp only [Option.bind_some, bne_self_eq_false, cond_false]
    cases step (p03.expv t, ()) x with
    | none => rfl
    | some q =>
      simp only [Option.bind_some]
      cases q.1 with
      | false => rfl
      | true =>
        simp only [Bool.not_true, cond_false, cond_true]
        rw [w64s i (by omega), ih', bindS]
end
theorem lims_round : ∀ (r v : List Int), v.length + r.length ≤ 1000 →
    foldR (fun y o => f20r0d 200000 y (o, ((), ()))) (r.map fun y => (y, ())) (((), ()), (v, ())) = some (.inl (((), ()), (v ++ r, ())))
  | [], v, _ => by simp [foldR]
  | p :: r, v, hl => by
    simp only [List.length_cons] at hl
    have hr : f20r0d 200000 (p, ()) ((((), ()), (v, ())), ((), ())) = some (.inl (((), ()), (v ++ [p], ()))) := by
      have hb : (v.length + 1) * 8 ≤ 140737488355328 := by omega
      simp only [f20r0d, f20r0c, List.length_cons, List.length_nil, Nat.zero_add, hb, decide_true, cond_true]
      rfl
    simp only [List.map_cons, foldR, hr, Option.bind_some, Sum.elim_inl]
    rw [lims_round r (v ++ [p]) (by simp; omega)]
    simp
theorem f20r0_eq {rate q : Int} {s : Bool} {g S T : List Int} (L : Lists s g S T) (hq : 0 ≤ q ∧ q ≤ 10) :
    f20r0F 200000 ((), ((widths s g, (S, (T, (rate, (q, (s, (g, ()))))))), (((), ((widths s g, (S, (T, (rate, (q, (s, (g, ()))))))), ())), ()))) [] = some ((((), ()), (lims rate q s g S T 0 (widths s g).length, ())), ()) := by
  have hwl : (widths s g).length ≤ 32 := (p10.widths_len L.d).1
  obtain ⟨m, hm⟩ : ∃ m, 200000 = m + (widths s g).length + 1 := ⟨200000 - (widths s g).length - 1, by omega⟩
  have h0 := i78l0_eq (sT := .sum (.pair (.pair .unit .unit) (.pair (.list I) .unit)) .unit) (step := stepRound fun y o => f20r0d 200000 y (o, ((), ()))) (rate := rate) L hq ((), ()) (widths s g).length m 0 (.inl (((), ()), (([] : List Int), ()))) (by omega)
  rw [← hm, show ((0 : Nat) : Int) = 0 from rfl] at h0
  have hfold := lims_round (lims rate q s g S T 0 (widths s g).length) [] (by simp [lims]; omega)
  have hstep := runL_step (fun (y : Int × Unit) o => f20r0d 200000 y (o, ((), ()))) ((lims rate q s g S T 0 (widths s g).length).map fun y => (y, ())) (((), ()), (([] : List Int), ()))
  rw [hfold] at hstep
  have hF : i78F 200000 (.sum (.pair (.pair .unit .unit) (.pair (.list I) .unit)) .unit) (stepRound fun y o => f20r0d 200000 y (o, ((), ()))) (widths s g, (S, (T, (rate, (q, (s, (g, ()))))))) ((), ((widths s g, (S, (T, (rate, (q, (s, (g, ()))))))), ())) (.inl (((), ()), (([] : List Int), ()))) =
      some (.inl (((), ()), (lims rate q s g S T 0 (widths s g).length, ()))) := by
    unfold i78F
    rw [show ((widths s g, (S, (T, (rate, (q, (s, (g, ()))))))) : List Int × (List Int × (List Int × (Int × (Int × (Bool × (List Int × Unit))))))).1 = widths s g from rfl, h0]
    rw [List.nil_append] at hstep
    generalize runL (stepRound fun (y : Int × Unit) o => f20r0d 200000 y (o, ((), ()))) ((lims rate q s g S T 0 (widths s g).length).map fun y => (y, ())) (.inl (((), ()), (([] : List Int), ()))) = Z at hstep ⊢
    cases Z with
    | none => cases hstep
    | some z =>
      obtain ⟨z1, z2⟩ := z
      have : z1 = .inl (((), ()), (lims rate q s g S T 0 (widths s g).length, ())) := by simpa using hstep
      subst this
      cases z2 <;> rfl
  unfold f20r0F
  exact (congrArg (fun z => Option.bind z (finish f20r0p f20r0x)) hF).trans rfl
/-- The errors of limits. -/
def le (c : List Int) (rate q : Int) (s : Bool) (g : List Int) : Int := if isDiv s g = true ∧ rate ∈ p10.rates ∧ 0 ≤ q ∧ q ≤ 10 then sp c s g else 1
/-- The rows' length. -/
def rw' (s : Bool) : Int := if s = true then 4 else 15
theorem levels_ok {c : List Int} {s : Bool} {g : List Int} (h : p11.Good c s g) : p11.se ((en c s g).map p11.lv) (rw' s) = 0 := by
  have hel := en_len (c := c) h.d
  have hwl : (widths s g).length ≤ 32 := h.wlen
  unfold p11.se
  have hv : ∀ x ∈ (en c s g).map p11.lv, 0 ≤ x ∧ x ≤ 15872 := fun x hx => by
    obtain ⟨y, hy, rfl⟩ := List.mem_map.1 hx
    obtain ⟨p, hp, rfl⟩ := List.mem_map.1 hy
    obtain ⟨a, _, b⟩ := h.bands p hp
    have hb := p11.sq_bound a
    have h1 := (p11.f48_log (N := 100) (Nat.le_refl _) hb.1 (by omega)).2.2.1
    have h2 := p11.lv_le (a := p11.sq p) (b := 2 ^ 56 - 1) hb.1 (by omega) (by omega)
    rw [p11.lv_pow] at h2
    omega
  have hmod : Int.tmod (((en c s g).map p11.lv).length : Int) (rw' s) = 0 := by
    rw [List.length_map, hel]
    unfold rw'
    cases s with
    | false =>
      have : (widths false g).length = 15 := rfl
      rw [this, if_neg (by simp)]; rfl
    | true =>
      have : (widths true g).length = 4 * g.length := by
        show (g.flatMap p10.four).length = _
        exact p10.four_len g
      rw [this, if_pos rfl, show Int.tmod ((4 * g.length : Nat) : Int) 4 = ((4 * g.length % 4 : Nat) : Int) from rfl, Nat.mul_mod_right]
      rfl
  rw [if_neg (by unfold rw'; split <;> omega), if_neg (by rw [List.length_map, hel]; omega), if_neg (by rw [hmod]; simp), if_pos (p11.lvOk_iff.2 hv)]
/-- The lists of a good spectrum. -/
theorem lists_of {c : List Int} {s : Bool} {g : List Int} (h : p11.Good c s g) : ∃ S : List Int, f45F 200000 ((en c s g).map p11.lv) (rw' s) = some ((S, ()), ((), (0, ()))) ∧ f51F 200000 ((en c s g).map p11.lv) (rw' s) = some ((S, ()), ((), (0, ()))) ∧ Lists s g S ((bnds c s g).map p11.tn) ∧ (∀ b, b < S.length → p11.IsSp ((en c s g).map p11.lv) (rw' s).toNat b (S.getD b 0)) := by
  have hse := levels_ok h
  obtain ⟨S, a1, _, a3⟩ := p11.f23_eq (N := 200000) (by omega) ((en c s g).map p11.lv) (rw' s)
  obtain ⟨b1, b2⟩ := a3 hse
  have hel := en_len (c := c) h.d
  rw [hse] at a1
  have hsame := p11.spread_same ((en c s g).map p11.lv) (rw' s)
  rw [a1] at hsame
  have hlv := (p11.se_ok hse).choose_spec.2.2.2.2.2
  refine ⟨S, a1, hsame.symm, ⟨h.d, by rw [b1, List.length_map, hel], ?_, fun b hb => ?_, fun b hb => ?_⟩, fun b hb => b2 b (by omega)⟩
  · rw [List.length_map]; exact p11.bnds_len c s g
  · have hb' : b < ((en c s g).map p11.lv).length := by rw [List.length_map, hel]; exact hb
    have := (b2 b hb').range hb' hlv
    have h0 := hlv _ (getD_mem (d := 0) hb')
    omega
  · have hb' : b < ((bnds c s g).map p11.tn).length := by rw [List.length_map, show (bnds c s g).length = (widths s g).length from p11.bnds_len c s g]; exact hb
    obtain ⟨p, _, hp⟩ := List.mem_map.1 (getD_mem (l := (bnds c s g).map p11.tn) (d := 0) hb')
    rw [← hp]
    exact p11.tn_range p
theorem f46_eq (N : Nat) (s : Bool) : f46F N s = some ((), (rw' s, ())) := by
  unfold f46F rw'
  cases s <;> rfl
theorem f20_eq (c : List Int) (rate q : Int) (s : Bool) (g : List Int) : ∃ r : List Int, f20F 200000 c rate q s g = some ((r, ()), ((), (le c rate q s g, ()))) ∧ (le c rate q s g ≠ 0 → r = []) ∧
    (∀ S, p11.Good c s g → le c rate q s g = 0 → f45F 200000 ((en c s g).map p11.lv) (rw' s) = some ((S, ()), ((), (0, ()))) → r = lims rate q s g S ((bnds c s g).map p11.tn) 0 (widths s g).length) := by
  unfold f20F
  rw [p10.f10_eq (by omega)]
  by_cases hd' : isDiv s g = true
  · have hd2 : p10.isDiv s g = true := hd'
    simp only [hd2, if_true, Option.bind_some, bne_self_eq_false, cond_false]
    rw [f43_eq (by omega)]
    by_cases hr : rate ∈ p10.rates
    · by_cases h0 : q < 0
      · have e : le c rate q s g = 1 := by unfold le; rw [if_neg (by omega)]
        exact ⟨[], by simp [hr, h0, e], by simp, fun S _ h => by rw [e] at h; cases h⟩
      · by_cases h1 : 10 < q
        · have e : le c rate q s g = 1 := by unfold le; rw [if_neg (by omega)]
          exact ⟨[], by simp [hr, h0, h1, e], by simp, fun S _ h => by rw [e] at h; cases h⟩
        · have e : le c rate q s g = sp c s g := by unfold le; rw [if_pos ⟨hd', hr, by omega, by omega⟩]
          simp only [hr, decide_true, Option.bind_some, Bool.not_true, cond_false, h0, h1, decide_false]
          rw [p11.f12_eq (by omega), e]
          by_cases hs : sp c s g = 0
          · have hh := p11.Good.of hs
            have hs2 : p11.sp c s g = 0 := hs
            obtain ⟨S, s1, _, L, _⟩ := lists_of hh
            have hwl : (widths s g).length ≤ 32 := hh.wlen
            have hel := en_len (c := c) hd'
            simp only [hs2, if_true, Option.bind_some, bne_self_eq_false, cond_false]
            rw [show (p11.bnds c s g).map p11.sq = en c s g from rfl, p11.f19_eq (by omega), en_ok' hh, f46_eq]
            simp only [hel, hwl, true_and, if_true, Option.bind_some]
            rw [s1]
            simp only [Option.bind_some]
            rw [p11.f16_eq (by omega)]
            simp only [hs2, if_true, Option.bind_some, f48F]
            have hF := f20r0_eq (rate := rate) (q := q) L ⟨by omega, by omega⟩
            rw [show f20r0F 200000 ((), ((p10.widths s g, (S, ((p11.bnds c s g).map p11.tn, (rate, (q, (s, (g, ()))))))), (((), ((p10.widths s g, (S, ((p11.bnds c s g).map p11.tn, (rate, (q, (s, (g, ()))))))), ())), ()))) [] = _ from hF]
            refine ⟨lims rate q s g S ((bnds c s g).map p11.tn) 0 (widths s g).length, rfl, fun h => absurd rfl h, fun S' _ _ h => ?_⟩
            have hSS : S = S' := by
              have := Option.some.inj h
              exact congrArg (fun z => z.1.1) this
            rw [hSS]
          · have hs2 : (p11.sp c s g != 0) = true := bne_iff_ne.2 hs
            refine ⟨[], ?_, by simp, fun S hg h => absurd h hs⟩
            simp only [hs2, Option.bind_some, cond_true]
    · have e : le c rate q s g = 1 := by unfold le; rw [if_neg (fun h => hr h.2.1)]
      exact ⟨[], by simp [hr, e], by simp, fun S _ h => by rw [e] at h; cases h⟩
  · have hd2 : p10.isDiv s g = false := by simpa using hd'
    have e : le c rate q s g = 1 := by unfold le; rw [if_neg (fun h => hd' h.1)]
    exact ⟨[], by simp [hd2, e], by simp, fun S _ h => by rw [e] at h; cases h⟩
  where en_ok' {c : List Int} {s : Bool} {g : List Int} (h : p11.Good c s g) : (en c s g).all p11.enOk = true := en_ok h
end Go.Sh.c12

namespace Go.Sh.c12

theorem lims_len (rate q : Int) (s : Bool) (g S T : List Int) (k : Nat) : (lims rate q s g S T 0 k).length = k := by simp [lims]
theorem lims_at {rate q : Int} {s : Bool} {g S T : List Int} {k b : Nat} (h : b < k) : (lims rate q s g S T 0 k).getD b 0 = lim (ll rate q s g S T b) := by
  simp [lims, List.getD, h]
theorem lims_snoc (rate q : Int) (s : Bool) (g S T : List Int) (k : Nat) : lims rate q s g S T 0 (k + 1) = lims rate q s g S T 0 k ++ [lim (ll rate q s g S T k)] := by
  unfold lims
  rw [List.range'_concat]; simp
theorem f21l0_eq {rate q : Int} {s : Bool} {g S T : List Int} (L : Lists s g S T) (hq : 0 ≤ q ∧ q ≤ 10) : ∀ (k m i : Nat), i + k = (widths s g).length →
    f21l0 200000 (m + k + 1) (lims rate q s g S T 0 i) rate q s g S T (widths s g) (widths s g).length i = some ((lims rate q s g S T 0 (widths s g).length, ()), ((), ())) := by
  have hwl : (widths s g).length ≤ 32 := (p10.widths_len L.d).1
  intro k
  induction k with
  | zero =>
    intro m i h
    obtain rfl : i = (widths s g).length := by omega
    have h1 : ¬ ((widths s g).length : Int) < ((widths s g).length : Int) := by omega
    simp only [f21l0, h1, decide_false, cond_false]
  | succ k ih =>
    intro m i h
    have ih' := ih m (i + 1) (by omega)
    rw [show m + (k + 1) + 1 = (m + k + 1) + 1 by omega]
    generalize m + k + 1 = M at ih' ⊢
    have hb : i < (widths s g).length := by omega
    have c1 : (i : Int) < ((widths s g).length : Int) := by omega
    have c2 : (i : Int) < (S.length : Int) := by rw [L.sl]; omega
    have c3 : (i : Int) < (T.length : Int) := by rw [L.tl]; omega
    obtain ⟨e, _, e1, q1, q2⟩ := qv_eq rate i s g
    obtain ⟨w1, w2, w3, w4⟩ := w_lv L.d hb
    have hs := L.sv i hb
    have ht := L.tv i hb
    obtain ⟨l1, l2⟩ := ll_bound (rate := rate) L hq hb
    have h53 := p11.f38_eq (N := 200000) (by omega) (n := (widths s g).getD i 0 - 1) (by omega) (by omega)
    rw [show (widths s g).getD i 0 - 1 + 1 = (widths s g).getD i 0 by omega] at h53
    have hbd : ((lims rate q s g S T 0 i).length + 1) * 8 ≤ 140737488355328 := by rw [lims_len]; omega
    have hll : (if S.getD i 0 - 256 - 3 * T.getD i 0 - 128 * q > qv rate i s g + p11.lv ((widths s g).getD i 0 - 1) then S.getD i 0 - 256 - 3 * T.getD i 0 - 128 * q else qv rate i s g + p11.lv ((widths s g).getD i 0 - 1)) = ll rate q s g S T i := rfl
    rw [lims_snoc] at ih'
    simp only [f21l0, c1, c2, c3, decide_true, cond_true, show (0 : Int) ≤ i by omega, Bool.and_self, Int.toNat_natCast, e1, h53, Option.bind_some, List.length_cons, List.length_nil, Nat.zero_add, hbd]
    rw [w64 (n := qv rate i s g + p11.lv ((widths s g).getD i 0 - 1)) (by omega) (by omega), w64 (n := S.getD i 0 - 256) (by omega) (by omega), w64 (n := 3 * T.getD i 0) (by omega) (by omega), w64 (n := S.getD i 0 - 256 - 3 * T.getD i 0) (by omega) (by omega), w64 (n := 128 * q) (by omega) (by omega), w64 (n := S.getD i 0 - 256 - 3 * T.getD i 0 - 128 * q) (by omega) (by omega), hll, w64s i (by omega)]
    obtain ⟨t, ht⟩ : ∃ t : Nat, ll rate q s g S T i = t := ⟨(ll rate q s g S T i).toNat, by omega⟩
    have hexp := (p03.f30_exp (N := 200000) (by omega) (t := t) (by omega)).2
    have hlim : lim (ll rate q s g S T i) = p03.expv t := by
      unfold lim; rw [if_neg (by omega), ht]; rfl
    rw [hlim] at ih'
    rw [ht, hexp]
    by_cases h0 : 0 < (t : Int)
    · simp only [h0, decide_true, cond_true, Option.bind_some, bindS]
      exact ih'
    · have ht0 : t = 0 := by omega
      subst ht0
      rw [expv_zero] at ih'
      simp only [h0, decide_false, cond_false, bindS]
      exact ih'
theorem f21_eq (c : List Int) (rate q : Int) (s : Bool) (g : List Int) : ∃ r : List Int, f21F 200000 c rate q s g = some ((r, ()), ((), (le c rate q s g, ()))) ∧ (le c rate q s g ≠ 0 → r = []) ∧
    (∀ S, p11.Good c s g → le c rate q s g = 0 → f45F 200000 ((en c s g).map p11.lv) (rw' s) = some ((S, ()), ((), (0, ()))) → r = lims rate q s g S ((bnds c s g).map p11.tn) 0 (widths s g).length) := by
  unfold f21F
  rw [p10.f23_eq (by omega)]
  by_cases hd' : isDiv s g = true
  · have hd2 : p10.isDiv s g = true := hd'
    simp only [hd2, Option.bind_some, Bool.not_true, cond_false]
    rw [p10.f37_eq (by omega)]
    by_cases hr : rate ∈ p10.rates
    · by_cases h0 : q < 0
      · have e : le c rate q s g = 1 := by unfold le; rw [if_neg (by omega)]
        exact ⟨[], by simp [hr, h0, e], by simp, fun S _ h => by rw [e] at h; cases h⟩
      · by_cases h1 : 10 < q
        · have e : le c rate q s g = 1 := by unfold le; rw [if_neg (by omega)]
          exact ⟨[], by simp [hr, h0, h1, e], by simp, fun S _ h => by rw [e] at h; cases h⟩
        · have e : le c rate q s g = sp c s g := by unfold le; rw [if_pos ⟨hd', hr, by omega, by omega⟩]
          simp only [hr, decide_true, Option.bind_some, Bool.not_true, cond_false, h0, h1, decide_false]
          rw [p11.f13_eq (by omega), e]
          by_cases hs : sp c s g = 0
          · have hh := p11.Good.of hs
            have hs2 : p11.sp c s g = 0 := hs
            obtain ⟨S, s1, s2, L, _⟩ := lists_of hh
            have hwl : (widths s g).length ≤ 32 := hh.wlen
            have hel := en_len (c := c) hd'
            have hen : (en c s g).all p11.enOk = true := en_ok hh
            obtain ⟨m, hm⟩ : ∃ m, 200000 = m + (widths s g).length + 1 := ⟨200000 - (widths s g).length - 1, by omega⟩
            have hloop := f21l0_eq (rate := rate) (q := q) L ⟨by omega, by omega⟩ (widths s g).length m 0 (by omega)
            rw [← hm, show ((0 : Nat) : Int) = 0 from rfl, show lims rate q s g S ((bnds c s g).map p11.tn) 0 0 = [] from rfl] at hloop
            simp only [hs2, if_true, Option.bind_some, bne_self_eq_false, cond_false]
            rw [show (p11.bnds c s g).map p11.sq = en c s g from rfl, p11.f20_eq (by omega), hen, p11.f17_eq (by omega), p10.f31_eq (by omega) hd2]
            simp only [hel, hwl, true_and, if_true, Option.bind_some, hs2]
            refine ⟨lims rate q s g S ((bnds c s g).map p11.tn) 0 (widths s g).length, ?_, fun h => absurd rfl h, fun S' _ _ h => ?_⟩
            · cases s with
              | true =>
                simp only [cond_true]
                rw [show (4 : Int) = rw' true from rfl, s2]
                simp only [Option.bind_some]
                rw [show f21l0 200000 200000 [] rate q true g S ((p11.bnds c true g).map p11.tn) (p10.widths true g) ((p10.widths true g).length : Int) 0 = _ from hloop]
                rfl
              | false =>
                simp only [cond_false]
                rw [show (15 : Int) = rw' false from rfl, s2]
                simp only [Option.bind_some]
                rw [show f21l0 200000 200000 [] rate q false g S ((p11.bnds c false g).map p11.tn) (p10.widths false g) ((p10.widths false g).length : Int) 0 = _ from hloop]
                rfl
            · rw [s1] at h
              have hSS : S = S' := by
                have := Option.some.inj h
                exact congrArg (fun z => z.1.1) this
              rw [hSS]
          · have hs2 : (p11.sp c s g != 0) = true := bne_iff_ne.2 hs
            refine ⟨[], ?_, by simp, fun S hg h => absurd h hs⟩
            simp only [hs2, Option.bind_some, cond_true]
    · have e : le c rate q s g = 1 := by unfold le; rw [if_neg (fun h => hr h.2.1)]
      exact ⟨[], by simp [hr, e], by simp, fun S _ h => by rw [e] at h; cases h⟩
  · have hd2 : p10.isDiv s g = false := by simpa using hd'
    have e : le c rate q s g = 1 := by unfold le; rw [if_neg (fun h => hd' h.1)]
    exact ⟨[], by simp [hd2, e], by simp, fun S _ h => by rw [e] at h; cases h⟩
theorem le_ok {c : List Int} {rate q : Int} {s : Bool} {g : List Int} (h : le c rate q s g = 0) : p11.Good c s g ∧ rate ∈ p10.rates ∧ 0 ≤ q ∧ q ≤ 10 := by
  unfold le at h
  split at h
  · rename_i h1
    exact ⟨p11.Good.of h, h1.2⟩
  · cases h
theorem psychoLimits (c : List Int) (n : Int × (Int × Unit)) (p : Bool × (List Int × Unit)) : f6F 200000 c n p = some ((), (true, ())) := by
  unfold f6F
  rw [f11_eq (by omega) (by simp), awake12]
  obtain ⟨r, a1, a2, a3⟩ := f20_eq c n.1 n.2.1 p.1 p.2.1
  obtain ⟨r', b1, b2, b3⟩ := f21_eq c n.1 n.2.1 p.1 p.2.1
  have hrr : r = r' ∧ r.length ≤ 1000 := by
    by_cases h : le c n.1 n.2.1 p.1 p.2.1 = 0
    · obtain ⟨hg, _⟩ := le_ok h
      obtain ⟨S, s1, _⟩ := lists_of hg
      rw [a3 S hg h s1, b3 S hg h s1, lims_len]
      have : (widths p.1 p.2.1).length ≤ 32 := hg.wlen
      exact ⟨rfl, by omega⟩
    · rw [a2 h, b2 h]; simp
  obtain ⟨rfl, hr⟩ := hrr
  rw [a1, b1]
  simp only [Option.bind_some, ints_self hr]
  cases ([c, p.2.1].all fun l => decide (l.length ≤ 300)) <;> simp
theorem f8l0_eq {N : Nat} {l : List Int} (hl : l.length ≤ 1000) (hN : 2000 ≤ N) (h : ∀ x ∈ l, 1 ≤ x) : f8l0 N N l l.length 0 = some (.inl ((), ())) := by
  have h := range_fold (l := l) 0 (f := fun n (_ : Unit) i => f8l0 N n l l.length i) (step := fun _ _ => ()) (fun _ _ => True) (fin := fun _ => some (.inl ((), ()))) (fun n i s hi _ => by
    have c1 : (i : Int) < (l.length : Int) := by omega
    have hx := h _ (getD_mem (d := 0) hi)
    have c2 : ¬ l.getD i 0 < 1 := by omega
    refine ⟨?_, trivial⟩
    simp only [f8l0, c1, c2, decide_true, decide_false, cond_true, cond_false, show (0 : Int) ≤ i by omega, Bool.and_self, Int.toNat_natCast]
    rw [w64s i (by omega), bindS]) (fun n s _ => by simp [f8l0]) N () (by omega) trivial
  exact h
theorem f8l2_eq {N : Nat} {a b : List Int} (hl : b.length = a.length) (ha : a.length ≤ 1000) (hN : 2000 ≤ N) (h : ∀ i, i < a.length → b.getD i 0 ≤ a.getD i 0) : f8l2 N N a b a.length 0 = some (.inl ((), ())) := by
  have h := range_fold (l := a) 0 (f := fun n (_ : Unit) i => f8l2 N n a b a.length i) (step := fun _ _ => ()) (fun _ _ => True) (fin := fun _ => some (.inl ((), ()))) (fun n i s hi _ => by
    have c1 : (i : Int) < (a.length : Int) := by omega
    have c1' : (i : Int) < (b.length : Int) := by omega
    have hx := h i hi
    have c2 : ¬ a.getD i 0 < b.getD i 0 := by omega
    refine ⟨?_, trivial⟩
    simp only [f8l2, c1, c1', c2, decide_true, decide_false, cond_true, cond_false, show (0 : Int) ≤ i by omega, Bool.and_self, Int.toNat_natCast]
    rw [w64s i (by omega), bindS]) (fun n s _ => by simp [f8l2]) N () (by omega) trivial
  exact h
theorem ll_quality {rate q : Int} {s : Bool} {g S T : List Int} {b : Nat} : ll rate (q + 1) s g S T b ≤ ll rate q s g S T b := by
  unfold ll
  split <;> split <;> omega
theorem psychoQuality (c : List Int) (n : Int × (Int × Unit)) (p : Bool × (List Int × Unit)) : f8F 200000 c n p = some ((), (true, ())) := by
  unfold f8F
  rw [f11_eq (by omega) (by simp), awake12]
  cases ([c, p.2.1].all fun l => decide (l.length ≤ 300)) with
  | false => simp
  | true =>
    obtain ⟨r, a1, a2, a3⟩ := f20_eq c n.1 n.2.1 p.1 p.2.1
    obtain ⟨r', b1, b2, b3⟩ := f20_eq c n.1 (IntKind.i64.wrap (n.2.1 + 1)) p.1 p.2.1
    rw [a1, b1]
    by_cases h : le c n.1 n.2.1 p.1 p.2.1 = 0
    · obtain ⟨hg, hrt, q0, q1⟩ := le_ok h
      obtain ⟨S, s1, _⟩ := lists_of hg
      have hwl : (widths p.1 p.2.1).length ≤ 32 := hg.wlen
      have ha := a3 S hg h s1
      have hal : r.length = (widths p.1 p.2.1).length := by rw [ha, lims_len]
      have hpos : ∀ x ∈ r, 1 ≤ x := fun x hx => by
        rw [ha] at hx
        obtain ⟨b, _, rfl⟩ := List.mem_map.1 hx
        exact lim_pos _
      simp only [Option.bind_some, Bool.not_true, cond_false, h, beq_self_eq_true, cond_true, bne_self_eq_false]
      rw [f8l0_eq (by omega) (by omega) hpos]
      simp only [Option.bind_some, Sum.elim_inl]
      by_cases h2 : le c n.1 (IntKind.i64.wrap (n.2.1 + 1)) p.1 p.2.1 = 0
      · have hb := b3 S hg h2 s1
        have hbl : r'.length = (widths p.1 p.2.1).length := by rw [hb, lims_len]
        have hle : ∀ i, i < r.length → r'.getD i 0 ≤ r.getD i 0 := fun i hi => by
          rw [hal] at hi
          rw [ha, hb, lims_at hi, lims_at hi, w64 (n := n.2.1 + 1) (by omega) (by omega)]
          exact lim_mono ll_quality
        simp only [h2, bne_self_eq_false, cond_false]
        rw [show ((r.length : Int) != (r'.length : Int)) = false by rw [hal, hbl]; exact bne_self_eq_false _, f8l2_eq (by omega) (by omega) (by omega) hle]
        rfl
      · have h2' : (le c n.1 (IntKind.i64.wrap (n.2.1 + 1)) p.1 p.2.1 != 0) = true := bne_iff_ne.2 h2
        simp only [h2', cond_true]
    · have h' : (le c n.1 n.2.1 p.1 p.2.1 != 0) = true := bne_iff_ne.2 h
      have h'' : (le c n.1 n.2.1 p.1 p.2.1 == 0) = false := by simpa using h
      simp only [Option.bind_some, Bool.not_true, cond_false, h', h'', cond_true]
/-! ### Zeros -/
abbrev c0 : List Int := List.replicate 128 0
theorem zero_bands {s : Bool} {g : List Int} (h : p11.Good c0 s g) : ∀ p ∈ bnds c0 s g, ∀ x ∈ p, x = 0 := fun p hp x hx => by
  have := p11.gath_of_mem h _ _ (fun x hx => (p11.gath_mem h.d h.len).1 hx) p hp x hx
  exact (List.mem_replicate.1 this).2
theorem zero_ll {s : Bool} {g S : List Int} (h : p11.Good c0 s g) (hS : S.length = (widths s g).length) (hsp : ∀ b, b < S.length → p11.IsSp ((en c0 s g).map p11.lv) (rw' s).toNat b (S.getD b 0)) {rate q : Int} (hq : 0 ≤ q) {b : Nat} (hb : b < (widths s g).length) :
    ll rate q s g S ((bnds c0 s g).map p11.tn) b = qv rate b s g + p11.lv ((widths s g).getD b 0 - 1) := by
  have hlev : ∀ x ∈ (en c0 s g).map p11.lv, x = 0 := fun x hx => by
    obtain ⟨y, hy, rfl⟩ := List.mem_map.1 hx
    obtain ⟨p, hp, rfl⟩ := List.mem_map.1 hy
    have : p11.sq p = 0 := by
      have := p11.same_sum (f := fun x => x * x) (y := 0) p (fun x hx => by rw [zero_bands h p hp x hx]; rfl)
      unfold p11.sq; rw [this]; omega
    rw [this, p11.lv_zero]
  have hS0 : S.getD b 0 = 0 := by
    have hsb := hsp b (by omega)
    have hel : ((en c0 s g).map p11.lv).length = (widths s g).length := by rw [List.length_map]; exact en_len h.d
    obtain ⟨k1, k, k2, k3, k4⟩ := hsb
    have h1 := k1 b (by omega) rfl
    have e : p11.cost b b = 0 := by unfold p11.cost; simp
    have h2 := hlev _ (getD_mem (d := 0) (show b < ((en c0 s g).map p11.lv).length by omega))
    have h3 := hlev _ (getD_mem (d := 0) k2)
    have h4 := p11.cost_pos k b
    omega
  have hT0 : ((bnds c0 s g).map p11.tn).getD b 0 = 0 := by
    have hbl : b < ((bnds c0 s g).map p11.tn).length := by rw [List.length_map, show (bnds c0 s g).length = (widths s g).length from p11.bnds_len c0 s g]; exact hb
    obtain ⟨p, hp, he⟩ := List.mem_map.1 (getD_mem (l := (bnds c0 s g).map p11.tn) (d := 0) hbl)
    rw [← he]
    exact p11.tn_same (v := 0) (h.bands p hp).2.1 fun x hx => by rw [zero_bands h p hp x hx]
  obtain ⟨_, _, _, q1, q2⟩ := qv_eq rate b s g
  obtain ⟨_, _, w3, _⟩ := w_lv h.d hb
  unfold ll
  rw [hS0, hT0, if_neg (by omega)]
theorem psychoZeros (n : Int × (Int × Unit)) (p : Bool × (List Int × Unit)) : f9F 200000 n p = some ((), (true, ())) := by
  unfold f9F
  rw [f11_eq (by omega) (by simp), awake12]
  cases ([p.2.1].all fun l => decide (l.length ≤ 300)) with
  | false => simp
  | true =>
    obtain ⟨r, a1, a2, a3⟩ := f20_eq c0 n.1 n.2.1 p.1 p.2.1
    obtain ⟨r', b1, b2, b3⟩ := f20_eq c0 n.1 0 p.1 p.2.1
    rw [a1, b1]
    by_cases h : le c0 n.1 n.2.1 p.1 p.2.1 = 0
    · obtain ⟨hg, hrt, q0, q1⟩ := le_ok h
      have h2 : le c0 n.1 0 p.1 p.2.1 = 0 := by
        have hs : sp c0 p.1 p.2.1 = 0 := p11.sp_of hg.d hg.len hg.inr
        unfold le
        rw [if_pos ⟨hg.d, hrt, by omega, by omega⟩, hs]
      obtain ⟨S, s1, _, L, hsp⟩ := lists_of hg
      have hwl : (widths p.1 p.2.1).length ≤ 32 := hg.wlen
      have ha := a3 S hg h s1
      have hb := b3 S hg h2 s1
      have hal : r.length = (widths p.1 p.2.1).length := by rw [ha, lims_len]
      have hbl : r'.length = (widths p.1 p.2.1).length := by rw [hb, lims_len]
      have hval : ∀ b, b < (widths p.1 p.2.1).length → r.getD b 0 = lim (qv n.1 b p.1 p.2.1 + p11.lv ((widths p.1 p.2.1).getD b 0 - 1)) := fun b hbb => by
        rw [ha, lims_at hbb, zero_ll hg L.sl hsp q0 hbb]
      have hval' : ∀ b, b < (widths p.1 p.2.1).length → r'.getD b 0 = lim (qv n.1 b p.1 p.2.1 + p11.lv ((widths p.1 p.2.1).getD b 0 - 1)) := fun b hbb => by
        rw [hb, lims_at hbb, zero_ll hg L.sl hsp (Int.le_refl 0) hbb]
      have hrr : r = r' := p10.ext_getD (by omega) fun k hk => by rw [hval k (by omega), hval' k (by omega)]
      have hlo : ∀ b, b < (widths p.1 p.2.1).length → 1 ≤ r.getD b 0 ∧ r.getD b 0 ≤ 262144 := fun b hbb => by
        rw [hval b hbb]
        obtain ⟨_, _, _, q1, q2⟩ := qv_eq n.1 b p.1 p.2.1
        obtain ⟨_, _, w3, w4⟩ := w_lv hg.d hbb
        refine ⟨lim_pos _, ?_⟩
        have h1 := lim_mono (show qv n.1 b p.1 p.2.1 + p11.lv ((widths p.1 p.2.1).getD b 0 - 1) ≤ 4608 by omega)
        have h2 : lim 4608 = 262144 := by
          unfold lim
          rw [if_neg (by omega), show Int.toNat 4608 = 256 * 18 from rfl, p03.expv_pow]; rfl
        omega
      have hok : r.all enOk = true := by
        rw [List.all_eq_true]
        intro x hx
        obtain ⟨b, hbb, rfl⟩ := List.mem_iff_getElem.1 hx
        have h1 := hlo b (by omega)
        have h3 : r.getD b 0 = r[b] := by simp [List.getD, List.getElem?_eq_getElem hbb]
        rw [h3] at h1
        have c1 : ¬ r[b] < 0 := by omega
        have c2 : ¬ 72057594037927936 < r[b] := by omega
        simp [enOk, p11.enOk, c1, c2]
      have hz : (List.replicate r.length (0 : Int)).all enOk = true := by
        rw [List.all_eq_true]
        intro x hx
        rw [(List.mem_replicate.1 hx).2]; rfl
      have hde : de (List.replicate r.length 0) r p.1 p.2.1 = 0 := by
        unfold de
        rw [if_pos hg.d, if_pos ⟨by rw [List.length_replicate, hal], hal⟩, hz, hok]; rfl
      have hdm : ∀ i, i ≤ (widths p.1 p.2.1).length → dm (widths p.1 p.2.1) (List.replicate r.length 0) r i = 0 := by
        intro i
        induction i with
        | zero => intro _; rfl
        | succ i ih =>
          intro hi
          have h0 : (List.replicate r.length (0 : Int)).getD i 0 = 0 := by
            simp only [List.getD, List.getElem?_replicate]; split <;> rfl
          have h1 := (hlo i (by omega)).1
          simp only [dm, tm, h0]
          rw [ih (by omega), if_neg (by omega)]; rfl
      have hb8 : (r.length : Int) * 8 ≤ 140737488355328 := by omega
      simp only [Option.bind_some, Bool.not_true, cond_false, h, bne_self_eq_false, beq_self_eq_true, show (0 : Int) ≤ (r.length : Int) by omega, hb8, decide_true, Bool.and_self, cond_true, Int.toNat_natCast]
      rw [f22_eq (by omega), hde, if_pos rfl, hdm _ (Nat.le_refl _), ← hrr, ints_self (by omega), h2]
      rfl
    · have h' : (le c0 n.1 n.2.1 p.1 p.2.1 != 0) = true := bne_iff_ne.2 h
      simp only [Option.bind_some, Bool.not_true, cond_false, h', cond_true]
end Go.Sh.c12
