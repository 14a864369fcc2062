/- Chapter 11: sums, what rises, tones. -/
import Derived.Test.YtonbhdiblfcndaaDoorPlainB
import Derived.Test.YtonbhdiblfcndaaDoorFrameG
set_option linter.unusedVariables false
set_option linter.unusedSimpArgs false
namespace Go.Sh.c11

theorem f25_eq {N : Nat} {l : List Int} {B : Int} (hB : 0 ≤ B) (hB' : B ≤ 1000000000000000) (h : ∀ x ∈ l, 0 ≤ x ∧ x ≤ B) (hl : l.length ≤ 1000) (hN : l.length < N) : f25F N l = some ((), (l.sum, ())) := by
  unfold f25F
  have hm : B * l.length ≤ 1000000000000000 * 1000 := Int.mul_le_mul hB' (by omega) (by omega) (by omega)
  have := sum_loop (l := l) (f := fun n s i => f25l0 N n s l l.length i) (g := fun x => x) (B := B) (fin := fun s => some ((), (s, ()))) hB (fun x hx => h x hx) (fun n i s hi h1 h2 h3 => by
    have c1 : (i : Int) < (l.length : Int) := by omega
    have hx := h _ (getD_mem (d := 0) hi)
    simp only [f25l0, c1, decide_true, cond_true, show (0 : Int) ≤ i by omega, Bool.and_self, Int.toNat_natCast]
    rw [w64 (n := s + l.getD i 0) (by omega) (by omega), w64s i (by omega), bindS]) (fun n s => by simp [f25l0]) N hN
  rw [this]; simp
theorem f6l0_eq {N : Nat} {l : List Int} (h : InR l) (hl : l.length ≤ 1000000) (hN : l.length < N) : f6l0 N N 0 l l.length 0 = some ((), (sq l, ())) := by
  exact sum_loop (l := l) (f := fun n s i => f6l0 N n s l l.length i) (g := fun x => x * x) (B := 4398046511104) (fin := fun s => some ((), (s, ()))) (by omega) (fun x hx => sq_one (h x hx)) (fun n i s hi h1 h2 h3 => by
    have c1 : (i : Int) < (l.length : Int) := by omega
    have hx := sq_one (getD_in h hi)
    simp only [f6l0, c1, decide_true, cond_true, show (0 : Int) ≤ i by omega, Bool.and_self, Int.toNat_natCast]
    rw [w64 (n := l.getD i 0 * l.getD i 0) (by omega) (by omega), w64 (n := s + l.getD i 0 * l.getD i 0) (by omega) (by omega), w64s i (by omega), bindS]) (fun n s => by simp [f6l0]) N hN
theorem blks_sum : ∀ (k : Nat) (l : List Int), l.length = 16 * k → (blks k l).sum = sq l
  | 0, l, h => by
    have : l = [] := List.length_eq_zero_iff.1 (by omega)
    subst this; rfl
  | k + 1, l, h => by
    simp only [blks, List.sum_cons]
    rw [blks_sum k (l.drop 16) (by simp; omega), sq_take_drop]
theorem blks_val : ∀ (k : Nat) (l : List Int), InR l → ∀ x ∈ blks k l, 0 ≤ x ∧ x ≤ 70368744177664
  | 0, _, _, x, hx => by cases hx
  | k + 1, l, h, x, hx => by
    rcases List.mem_cons.1 hx with rfl | hx
    · have := sq_bound (h.take 16)
      have h2 : (l.take 16).length ≤ 16 := by simp; omega
      omega
    · exact blks_val k _ (h.drop 16) x hx
theorem bnds_val {c : List Int} {s : Bool} {g : List Int} (h : Good c s g) : ∀ x ∈ (bnds c s g).map sq, 0 ≤ x ∧ x ≤ 562949953421312 := fun x hx => by
  obtain ⟨p, hp, rfl⟩ := List.mem_map.1 hx
  obtain ⟨a, _, b⟩ := h.bands p hp
  have := sq_bound a
  omega
theorem bnds_sum {c : List Int} {s : Bool} {g : List Int} (h : Good c s g) : ((bnds c s g).map sq).sum = sq c := by
  unfold bnds
  rw [cutW_sq _ _ (fun x hx => by have := (h.wval x hx).1; omega) (by rw [h.wsum, h.glen]; rfl), sq_gath h.d h.len]
theorem f25_bnds {c : List Int} {s : Bool} {g : List Int} (h : Good c s g) : f25F 200000 ((bnds c s g).map sq) = some ((), (sq c, ())) := by
  have hl : ((bnds c s g).map sq).length ≤ 32 := by rw [List.length_map, bnds_len]; exact h.wlen
  rw [f25_eq (B := 562949953421312) (by omega) (by omega) (bnds_val h) (by omega) (by omega), bnds_sum h]
theorem energySums (c g : List Int) : f6F 200000 c g = some ((), (true, ())) := by
  unfold f6F
  rw [f10_eq, awake11, f21_eq (by omega)]
  cases hb : decide (c.length ≤ 300) && decide (g.length ≤ 100) with
  | false => simp
  | true =>
    by_cases hs : sp c false [] = 0
    · have hh := Good.of hs
      have hlen : (blks 8 c).length ≤ 8 := by simp [blks]
      have e1 : f25F 200000 (blks 8 c) = some ((), (sq c, ())) := by
        rw [f25_eq (B := 70368744177664) (by omega) (by omega) (blks_val 8 c hh.inr) (by omega) (by omega), blks_sum 8 c (by rw [hh.len])]
      simp only [Option.bind_some, Bool.not_true, cond_false, hs, if_true, bne_self_eq_false]
      rw [f6l0_eq hh.inr (by rw [hh.len]; omega) (by rw [hh.len]; omega), f12_eq (by omega), f14_eq (by omega), f12_eq (by omega), f14_eq (by omega), p10.f23_eq (by omega)]
      simp only [Option.bind_some, hs, if_true, bne_self_eq_false, cond_false, f25_bnds hh, e1]
      cases hd : p10.isDiv true g with
      | false => simp
      | true =>
        have h2 := sp_of (s := true) (g := g) hd hh.len hh.inr
        simp only [h2, if_true, f25_bnds (Good.of h2), Option.bind_some]
        simp
    · have hs' : (sp c false [] != 0) = true := by simpa using hs
      simp [hs']
theorem lv_zero : lv 0 = 0 := by
  have := lv_pow 0
  simpa using this
theorem en_all {a b : Int} : ([a, b].all enOk = true) ↔ (0 ≤ a ∧ a ≤ 72057594037927936) ∧ (0 ≤ b ∧ b ≤ 72057594037927936) := by
  unfold enOk
  simp
theorem energyRising (a : Int) (_ : Fit (.int .i64) a) (b : Int) (_ : Fit (.int .i64) b) (x : Int) (fx : Fit (.int .u8) x) : f8F 200000 a b x = some ((), (true, ())) := by
  have hc : 0 ≤ x ∧ x ≤ 255 := by
    have h1 : decide (IntKind.u8.min ≤ x ∧ x ≤ IntKind.u8.max) = true := by simpa [Fit, Lit.wf] using fx
    exact of_decide_eq_true h1
  obtain ⟨k, rfl⟩ : ∃ k : Nat, x = k := ⟨x.toNat, by omega⟩
  have e1 : Int.tmod (k : Int) 57 = ((k % 57 : Nat) : Int) := rfl
  have c1 : ¬ ((k % 57 : Nat) : Int) < 0 := by omega
  have p1 := p03.pow2 (k % 57)
  have p2 := p03.pow2_le (show k % 57 ≤ 56 by omega)
  have hen : [0, (2 : Int) ^ (k % 57) - 1].all enOk = true := en_all.2 ⟨by omega, by omega⟩
  unfold f8F
  rw [w64 (n := (k : Int)) (by omega) (by omega), e1, w64 (n := 256 * ((k % 57 : Nat) : Int)) (by omega) (by omega), show min (Int.toNat ((k % 57 : Nat) : Int)) 64 = k % 57 by omega, Int.one_mul, w64 (n := 2 ^ (k % 57)) (by omega) (by omega), w64 (n := 2 ^ (k % 57) - 1) (by omega) (by omega), f19_eq (by omega)]
  simp only [c1, decide_false, Bool.not_false, cond_true, hen, List.length_cons, List.length_nil, List.map_cons, List.map_nil, lv_zero, lv_pow, Option.bind_some, Nat.zero_add, Nat.reduceAdd, Nat.reduceLeDiff, and_self, if_true, bne_self_eq_false, cond_false]
  rw [ints_self (by simp), awake11, f19_eq (by omega)]
  simp only [Option.bind_some, Bool.not_true, cond_false, List.length_cons, List.length_nil, Nat.zero_add, Nat.reduceAdd, Nat.reduceLeDiff, true_and, if_true]
  obtain ⟨m, hm⟩ : ∃ m, m = if b < a then b else a := ⟨_, rfl⟩
  obtain ⟨M, hM⟩ : ∃ M, M = if b > a then b else a := ⟨_, rfl⟩
  have hmM : m ≤ M := by
    rw [hm, hM]; split <;> split <;> omega
  rw [← hm, ← hM]
  by_cases h : [m, M].all enOk = true
  · obtain ⟨⟨h1, h2⟩, h3, h4⟩ := en_all.1 h
    have h5 := (f48_log (N := 100) (Nat.le_refl _) h1 (by omega)).2.2.1
    have h6 := lv_le h1 hmM (by omega)
    simp [h, h5, h6]
  · simp [h]
/-! ### Tones -/
theorem tn_range (p : List Int) : 0 ≤ tn p ∧ tn p ≤ 255 := by
  unfold tn
  repeat' split
  all_goals omega
theorem same_sum {f : Int → Int} {y : Int} : ∀ (l : List Int), (∀ x ∈ l, f x = y) → (l.map f).sum = y * l.length
  | [], _ => by simp
  | x :: r, h => by
    simp only [List.map_cons, List.sum_cons, List.length_cons]
    rw [same_sum r fun z hz => h z (by simp [hz]), h x (by simp), Int.natCast_add, Int.mul_add]
    simp; omega
theorem tn_same {p : List Int} {v : Int} (h1 : 1 ≤ p.length) (h : ∀ x ∈ p, x * x = v * v) : tn p = 0 := by
  have e1 : sq p = v * v * p.length := same_sum p h
  have e2 : lsum p = lv (v * v) * p.length := same_sum p fun x hx => by rw [h x hx]
  have e3 : tdif p = 0 := by
    unfold tdif
    rw [e1, e2, Int.mul_tdiv_cancel _ (by omega), Int.mul_tdiv_cancel _ (by omega)]; omega
  unfold tn
  rw [e3]; rfl
theorem f9l0_eq (N : Nat) {t0 : List Bool} (h0 : 0 < t0.length) {v : Int} (hv0 : 0 ≤ v) (hv1 : v ≤ 2097152) : ∀ (k m i : Nat) (u : List Int), i + k = 128 → u.length = 128 → (∀ j, j < i → u.getD j 0 = v ∨ u.getD j 0 = -v) →
    ∃ r : List Int, f9l0 N (m + k + 1) u t0 v 128 i = some ((r, ()), ((), ())) ∧ r.length = 128 ∧ ∀ j, j < 128 → r.getD j 0 = v ∨ r.getD j 0 = -v := by
  intro k
  induction k with
  | zero =>
    intro m i u h hu hp
    obtain rfl : i = 128 := by omega
    exact ⟨u, by simp [f9l0], hu, hp⟩
  | succ k ih =>
    intro m i u h hu hp
    have ih' := fun u => ih m (i + 1) u (by omega)
    rw [show m + (k + 1) + 1 = (m + k + 1) + 1 by omega]
    generalize m + k + 1 = M at ih' ⊢
    have c1 : (i : Int) < 128 := by omega
    have c2 : (i : Int) < (u.length : Int) := by omega
    have c3 : (!((t0.length : Int) == 0)) = true := by
      have : (t0.length : Int) ≠ 0 := by omega
      simpa using this
    have e1 : Int.tmod (i : Int) (t0.length : Int) = ((i % t0.length : Nat) : Int) := rfl
    have hmod := Nat.mod_lt i h0
    have c4 : ((i % t0.length : Nat) : Int) < (t0.length : Int) := by omega
    have c5 : (i : Int) < ((u.set i v).length : Int) := by simp; omega
    have hset : ∀ (u : List Int) (y : Int), u.length = 128 → (∀ j, j < i → u.getD j 0 = v ∨ u.getD j 0 = -v) → (y = v ∨ y = -v) → ∀ j, j < i + 1 → (u.set i y).getD j 0 = v ∨ (u.set i y).getD j 0 = -v := by
      intro u y hu hp hy j hj
      by_cases hji : j = i
      · subst hji
        have : (u.set j y).getD j 0 = y := by simp [List.getD, List.getElem?_set, show j < u.length by omega]
        rw [this]; exact hy
      · have : (u.set i y).getD j 0 = u.getD j 0 := by simp [List.getD, List.getElem?_set, Ne.symm hji]
        rw [this]; exact hp j (by omega)
    have hp' : ∀ j, j < i → (u.set i v).getD j 0 = v ∨ (u.set i v).getD j 0 = -v := fun j hj => hset u v hu hp (.inl rfl) j (by omega)
    simp only [f9l0, c1, c2, c3, c4, c5, e1, decide_true, cond_true, show (0 : Int) ≤ i by omega, show (0 : Int) ≤ ((i % t0.length : Nat) : Int) by omega, Bool.and_self, Int.toNat_natCast]
    rw [w64s i (by omega), w64 (n := 0 - v) (by omega) (by omega), show (0 : Int) - v = -v by omega]
    cases t0.getD (i % t0.length) false with
    | true =>
      simp only [cond_true, bindS]
      exact ih' _ (by simp [hu]) (hset _ _ (by simp [hu]) hp' (.inr rfl))
    | false =>
      simp only [cond_false, bindS]
      exact ih' _ (by simp [hu]) (hset _ _ hu hp (.inl rfl))
theorem f9l2_eq {N : Nat} {l : List Int} (hl : l.length ≤ 1000) (hN : 1000 < N) (h : ∀ x ∈ l, x = 0) : f9l2 N N l l.length 0 = some (.inl ((), ())) := by
  have h := range_fold (l := l) 0 (f := fun n (_ : Unit) i => f9l2 N n l l.length i) (step := fun _ _ => ()) (fun _ _ => True) (fin := fun _ => some (.inl ((), ()))) (fun n i s hi _ => by
    have c1 : (i : Int) < (l.length : Int) := by omega
    refine ⟨?_, trivial⟩
    simp only [f9l2, c1, decide_true, cond_true, show (0 : Int) ≤ i by omega, Bool.and_self, Int.toNat_natCast, h _ (getD_mem hi), bne_self_eq_false, cond_false]
    rw [w64s i (by omega), bindS]) (fun n s _ => by simp [f9l2]) N () (by omega) trivial
  exact h
theorem f9l4_eq {N : Nat} {l : List Int} (hl : l.length ≤ 1000) (hN : 1000 < N) (h : ∀ x ∈ l, 0 ≤ x ∧ x ≤ 255) : f9l4 N N l l.length 0 = some (.inl ((), ())) := by
  have h := range_fold (l := l) 0 (f := fun n (_ : Unit) i => f9l4 N n l l.length i) (step := fun _ _ => ()) (fun _ _ => True) (fin := fun _ => some (.inl ((), ()))) (fun n i s hi _ => by
    have c1 : (i : Int) < (l.length : Int) := by omega
    have hx := h _ (getD_mem (d := 0) hi)
    have c2 : ¬ l.getD i 0 < 0 := by omega
    have c3 : ¬ 255 < l.getD i 0 := by omega
    refine ⟨?_, trivial⟩
    simp only [f9l4, c1, c2, c3, decide_true, decide_false, cond_true, cond_false, show (0 : Int) ≤ i by omega, Bool.and_self, Int.toNat_natCast]
    rw [w64s i (by omega), bindS]) (fun n s _ => by simp [f9l4]) N () (by omega) trivial
  exact h
theorem gath_of_mem {c : List Int} {s : Bool} {g : List Int} (h : Good c s g) : ∀ (w l : List Int), (∀ x ∈ l, x ∈ c) → ∀ p ∈ cutW l w, ∀ x ∈ p, x ∈ c
  | [], _, _, p, hp => by cases hp
  | w :: r, l, hl, p, hp => by
    rcases List.mem_cons.1 hp with rfl | hp
    · exact fun x hx => hl x (List.mem_of_mem_take hx)
    · exact gath_of_mem h r _ (fun x hx => hl x (List.mem_of_mem_drop hx)) p hp
theorem tones_part {c : List Int} {v : Int} (hc : c.length = 128) (hv0 : 0 ≤ v) (hv1 : v ≤ 2097152) (hcv : ∀ j, j < 128 → c.getD j 0 = v ∨ c.getD j 0 = -v) {s : Bool} {g : List Int} (hd : isDiv s g = true) :
    f16F 200000 c s g = some (((bnds c s g).map tn, ()), ((), (0, ()))) ∧ (∀ x ∈ (bnds c s g).map tn, x = 0) ∧
    f16F 200000 (c.set 5 (Int.tdiv (0 - c.getD 5 0) 2)) s g = some (((bnds (c.set 5 (Int.tdiv (0 - c.getD 5 0) 2)) s g).map tn, ()), ((), (0, ()))) ∧ (∀ x ∈ (bnds (c.set 5 (Int.tdiv (0 - c.getD 5 0) 2)) s g).map tn, 0 ≤ x ∧ x ≤ 255) ∧
    (bnds c s g).length = (widths s g).length ∧ (bnds (c.set 5 (Int.tdiv (0 - c.getD 5 0) 2)) s g).length = (widths s g).length ∧ 0 < (widths s g).length ∧ (widths s g).length ≤ 32 := by
  have hm : ∀ x ∈ c, x = v ∨ x = -v := fun x hx => by
    obtain ⟨q, hq, rfl⟩ := List.mem_iff_getElem.1 hx
    have := hcv q (by omega)
    simpa [List.getD, List.getElem?_eq_getElem hq] using this
  have hin : InR c := fun x hx => by have := hm x hx; omega
  have h5 := hcv 5 (by omega)
  have hin2 : InR (c.set 5 (Int.tdiv (0 - c.getD 5 0) 2)) := fun x hx => by
    rcases List.mem_or_eq_of_mem_set hx with hx | rfl
    · exact hin x hx
    · have := p03.tdiv_bound (a := 0 - c.getD 5 0) (b := 2) (B := 2097152) (by omega) (by omega) (by omega)
      exact this
  have s1 := sp_of hd hc hin
  have s2 := sp_of hd (show (c.set 5 (Int.tdiv (0 - c.getD 5 0) 2)).length = 128 by simp [hc]) hin2
  have hh := Good.of s1
  obtain ⟨w1, w2⟩ := p10.widths_len hd
  refine ⟨by rw [f16_eq (by omega), s1]; rfl, fun x hx => ?_, by rw [f16_eq (by omega), s2]; rfl, fun x hx => ?_, bnds_len _ _ _, bnds_len _ _ _, ?_, w1⟩
  · obtain ⟨p, hp, rfl⟩ := List.mem_map.1 hx
    refine tn_same (v := v) (hh.bands p hp).2.1 fun x hx => ?_
    have := hm x (gath_of_mem hh _ _ (fun x hx => (gath_mem hd hc).1 hx) p hp x hx)
    rcases this with rfl | rfl
    · rfl
    · rw [Int.neg_mul_neg]
  · obtain ⟨p, _, rfl⟩ := List.mem_map.1 hx
    exact tn_range p
  · exact List.length_pos_iff.2 fun h => by
      have : (widths s g).isEmpty = true := by rw [h]; rfl
      rw [show (widths s g).isEmpty = false from w2] at this
      cases this
theorem energyTones (t0 : List Bool) (v : Int) (g : List Int) : f9F 200000 t0 v g = some ((), (true, ())) := by
  unfold f9F
  rw [awake11]
  by_cases c1 : v < 0
  · simp [c1]
  · by_cases c2 : 2097152 < v
    · simp [c1, c2]
    · rw [f10_eq]
      cases hb : decide (([] : List Int).length ≤ 300) && decide (g.length ≤ 100) with
      | false => simp [c1, c2]
      | true =>
        simp only [c1, c2, decide_false, cond_false, Option.bind_some, Bool.not_true]
        by_cases h0 : t0.length = 0
        · have : ((t0.length : Int) == 0) = true := by rw [h0]; rfl
          simp only [this, cond_true]
        · have c3 : ((t0.length : Int) == 0) = false := by
            have : (t0.length : Int) ≠ 0 := by omega
            simpa using this
          simp only [c3, cond_false, List.length_replicate]
          obtain ⟨c, hl, hc, hcv⟩ := f9l0_eq 200000 (t0 := t0) (by omega) (show 0 ≤ v by omega) (by omega) 128 199871 0 (List.replicate 128 0) rfl (List.length_replicate ..) (fun j hj => by omega)
          rw [show ((0 : Nat) : Int) = 0 from rfl, show 199871 + 128 + 1 = 200000 from rfl] at hl
          rw [show ((128 : Nat) : Int) = 128 from rfl, hl, p10.f23_eq (by omega)]
          have hin5 : -2097152 ≤ c.getD 5 0 ∧ c.getD 5 0 ≤ 2097152 := by have := hcv 5 (by omega); omega
          have hq := p03.tdiv_bound (a := 0 - c.getD 5 0) (b := 2) (B := 2097152) (by omega) (by omega) (by omega)
          have c5 : (5 : Int) < (c.length : Int) := by omega
          rw [Option.bind_some]
          simp only [Option.bind_some, c5, decide_true, Bool.and_self, cond_true]
          rw [w64 (n := 0 - c.getD 5 0) (by omega) (by omega), w64 (n := Int.tdiv (0 - c.getD 5 0) 2) (by omega) (by omega)]
          cases hd : p10.isDiv true g with
          | false =>
            obtain ⟨a1, a2, a3, a4, a5, a6, a7, a8⟩ := tones_part hc (by omega) (by omega) hcv dfalse
            have l1 : ((bnds c false []).map tn).length = (widths false []).length := by rw [List.length_map, a5]
            have l2 : ((bnds (c.set 5 (Int.tdiv (0 - c.getD 5 0) 2)) false []).map tn).length = (widths false []).length := by rw [List.length_map, a6]
            simp only [Bool.not_false, cond_true]
            rw [a1, Option.bind_some, f9l2_eq (by omega) (by omega) a2, Option.bind_some, a3]
            simp only [Sum.elim_inl, Option.bind_some]
            rw [f9l4_eq (by omega) (by omega) a4]
            have l3 : (0 : Int) < (((bnds c false []).map tn).length : Int) := by omega
            simp only [Sum.elim_inl, Option.bind_some, beq_self_eq_true, cond_true, l3, decide_true]
            rw [l1, l2]
            simp
          | true =>
            obtain ⟨a1, a2, a3, a4, a5, a6, a7, a8⟩ := tones_part hc (by omega) (by omega) hcv (s := true) (g := g) hd
            have l1 : ((bnds c true g).map tn).length = (widths true g).length := by rw [List.length_map, a5]
            have l2 : ((bnds (c.set 5 (Int.tdiv (0 - c.getD 5 0) 2)) true g).map tn).length = (widths true g).length := by rw [List.length_map, a6]
            simp only [Bool.not_true, cond_false]
            rw [a1, Option.bind_some, f9l2_eq (by omega) (by omega) a2, Option.bind_some, a3]
            simp only [Sum.elim_inl, Option.bind_some]
            rw [f9l4_eq (by omega) (by omega) a4]
            have l3 : (0 : Int) < (((bnds c true g).map tn).length : Int) := by omega
            simp only [Sum.elim_inl, Option.bind_some, beq_self_eq_true, cond_true, l3, decide_true]
            rw [l1, l2]
            simp
end Go.Sh.c11

namespace Go.Sh.c11

/-- What a level loses on its way. -/
def cost (k b : Nat) : Int := if k ≤ b then 384 * ((b : Int) - k) else 768 * ((k : Int) - b)
def IsUp (l : List Int) (n b : Nat) (v : Int) : Prop := (∀ k, k ≤ b → k / n = b / n → l.getD k 0 - cost k b ≤ v) ∧ ∃ k, k ≤ b ∧ k / n = b / n ∧ v = l.getD k 0 - cost k b
def IsSp (l : List Int) (n b : Nat) (v : Int) : Prop := (∀ k, k < l.length → k / n = b / n → l.getD k 0 - cost k b ≤ v) ∧ ∃ k, k < l.length ∧ k / n = b / n ∧ v = l.getD k 0 - cost k b
theorem IsSp.unique {l : List Int} {n b : Nat} {u v : Int} (h1 : IsSp l n b u) (h2 : IsSp l n b v) : u = v := by
  obtain ⟨a1, k, b1, c1, d1⟩ := h1
  obtain ⟨a2, j, b2, c2, d2⟩ := h2
  have := a1 j b2 c2
  have := a2 k b1 c1
  omega
theorem same_pred {n b : Nat} (h : 0 < b % n) : (b - 1) / n = b / n := by
  rcases Nat.eq_zero_or_pos n with rfl | hn
  · simp
  · have h1 := Nat.div_add_mod b n
    have h2 := Nat.mod_lt b hn
    have e : b - 1 = n * (b / n) + (b % n - 1) := by omega
    rw [e, Nat.mul_add_div hn, Nat.div_eq_of_lt (show b % n - 1 < n by omega), Nat.add_zero]
theorem same_succ {n b : Nat} (h : b % n + 1 < n) : (b + 1) / n = b / n := by
  have hn : 0 < n := by omega
  have h1 := Nat.div_add_mod b n
  have e : b + 1 = n * (b / n) + (b % n + 1) := by omega
  rw [e, Nat.mul_add_div hn, Nat.div_eq_of_lt h, Nat.add_zero]
theorem row_first {n b k : Nat} (h : b % n = 0) (hk : k ≤ b) (hs : k / n = b / n) : k = b := by
  have h1 := Nat.div_add_mod b n
  have h2 := Nat.div_add_mod k n
  rw [hs] at h2
  omega
theorem row_last {n b k : Nat} (hn : 0 < n) (h : ¬ b % n + 1 < n) (hs : k / n = b / n) : k ≤ b := by
  have h1 := Nat.div_add_mod b n
  have h2 := Nat.div_add_mod k n
  have h3 := Nat.mod_lt k hn
  have h4 := Nat.mod_lt b hn
  rw [hs] at h2
  omega
theorem row_end {n b len : Nat} (hn : 0 < n) (hl : len % n = 0) (hb : b < len) : b / n * n + n ≤ len := by
  have h1 := Nat.div_add_mod len n
  have h2 : b / n < len / n := (Nat.div_lt_iff_lt_mul hn).2 (by rw [Nat.mul_comm]; omega)
  have h3 := Nat.mul_le_mul_left n (show b / n + 1 ≤ len / n by omega)
  rw [Nat.mul_add] at h3
  rw [Nat.mul_comm]
  omega
theorem IsUp.first {l : List Int} {n b : Nat} (h : b % n = 0) : IsUp l n b (l.getD b 0) :=
  ⟨fun k hk hs => by rw [row_first h hk hs]; unfold cost; simp, b, Nat.le_refl _, rfl, by unfold cost; simp⟩
theorem IsUp.next {l : List Int} {n b : Nat} {v : Int} (h : 0 < b % n) (hb : 0 < b) (hp : IsUp l n (b - 1) v) : IsUp l n b (if v - 384 > l.getD b 0 then v - 384 else l.getD b 0) := by
  have hsame := same_pred h
  obtain ⟨p1, k0, p2, p3, p4⟩ := hp
  refine ⟨fun k hk hs => ?_, ?_⟩
  · by_cases hkb : k = b
    · subst hkb
      have : cost k k = 0 := by unfold cost; simp
      split <;> omega
    · have := p1 k (by omega) (by omega)
      have e : cost k b = cost k (b - 1) + 384 := by
        unfold cost; rw [if_pos (by omega), if_pos (by omega)]; omega
      split <;> omega
  · split
    · refine ⟨k0, by omega, by omega, ?_⟩
      have e : cost k0 b = cost k0 (b - 1) + 384 := by
        unfold cost; rw [if_pos (by omega), if_pos (by omega)]; omega
      omega
    · exact ⟨b, Nat.le_refl _, rfl, by unfold cost; simp⟩
theorem IsSp.last {l : List Int} {n b : Nat} {v : Int} (hn : 0 < n) (hb : b < l.length) (h : ¬ b % n + 1 < n) (hu : IsUp l n b v) : IsSp l n b v := by
  obtain ⟨p1, k0, p2, p3, p4⟩ := hu
  exact ⟨fun k _ hs => p1 k (row_last hn h hs) hs, k0, by omega, p3, p4⟩
theorem IsSp.next {l : List Int} {n b : Nat} {u v : Int} (hb : b < l.length) (h : b % n + 1 < n) (hu : IsUp l n b u) (hv : IsSp l n (b + 1) v) : IsSp l n b (if v - 768 > u then v - 768 else u) := by
  have hsame := same_succ h
  obtain ⟨p1, k0, p2, p3, p4⟩ := hu
  obtain ⟨q1, j0, q2, q3, q4⟩ := hv
  refine ⟨fun k hk hs => ?_, ?_⟩
  · by_cases hkb : k ≤ b
    · have := p1 k hkb hs
      split <;> omega
    · have := q1 k hk (by omega)
      have e : cost k b = cost k (b + 1) + 768 := by
        unfold cost
        rw [if_neg hkb]
        split
        · rw [show k = b + 1 by omega]; omega
        · omega
      split <;> omega
  · split
    · by_cases hj : j0 ≤ b
      · have := p1 j0 hj (by omega)
        have e : cost j0 (b + 1) = cost j0 b + 384 := by
          unfold cost; rw [if_pos (by omega), if_pos hj]; omega
        omega
      · refine ⟨j0, q2, by omega, ?_⟩
        have e : cost j0 b = cost j0 (b + 1) + 768 := by
          unfold cost
          rw [if_neg hj]
          split
          · rw [show j0 = b + 1 by omega]; omega
          · omega
        omega
    · exact ⟨k0, by omega, p3, p4⟩
/-! ### The code's passes -/
def lvOk (x : Int) : Bool := !(decide (x < 0)) && !(decide (15872 < x))
theorem set_getD (l : List Int) (i j : Nat) (y : Int) (h : i < l.length) : (l.set i y).getD j 0 = if j = i then y else l.getD j 0 := by
  by_cases hj : j = i
  · subst hj; simp [List.getD, List.getElem?_set, h]
  · rw [if_neg hj]; simp [List.getD, List.getElem?_set, Ne.symm hj]
theorem f40_raw (m : Nat) (a b : Int) : f40F (m + 1 + 1 + 1) [a, b] = some ((), (if b > (if a > a then a else a) then b else (if a > a then a else a), ())) := by kernel_rfl
theorem f40_two {N : Nat} (hN : 10 ≤ N) (a b : Int) : f40F N [a, b] = some ((), (if b > a then b else a, ())) := by
  obtain ⟨m, rfl⟩ : ∃ m, N = m + 1 + 1 + 1 := ⟨N - 3, by omega⟩
  rw [f40_raw]
  have : (if a > a then a else a) = a := by split <;> rfl
  rw [this]
theorem go_copy : ∀ (r pre : List Int), (∀ x ∈ r, lvOk x = true) → goL (S := List Int) (E := Int) (fun v x => if lvOk x = true then .inl v else .inr 6) r pre = .inl pre
  | [], _, _ => rfl
  | x :: r, pre, h => by simp only [goL, h x (by simp), if_true, Sum.elim_inl]; exact go_copy r pre fun y hy => h y (by simp [hy])
theorem f23l1_eq {N : Nat} {l : List Int} (hl : l.length ≤ 1000) : ∀ (r : List Int) (n i : Nat), l.drop i = r → i ≤ l.length → r.length < n →
    f23l1 N n (l.take i ++ List.replicate r.length 0) l l.length i = if r.all lvOk = true then some (.inl ((l, ()), ((), ()))) else some (.inr ((([] : List Int), ()), ((), (6, ())))) := by
  intro r
  induction r with
  | nil =>
    intro n i h hi hn
    obtain ⟨m, rfl⟩ : ∃ m, n = m + 1 := ⟨n - 1, by omega⟩
    have := ge_of_drop h
    have h1 : ¬ (i : Int) < l.length := by omega
    have h2 : l.take i = l := List.take_of_length_le this
    simp [f23l1, h1, h2]
  | cons x r ih =>
    intro n i h hi hn
    obtain ⟨m, rfl⟩ : ∃ m, n = m + 1 := ⟨n - 1, by omega⟩
    have hlt := lt_of_drop h
    have hr : r.length = l.length - i - 1 := by
      have := congrArg List.length h
      simp at this
      omega
    simp only [List.length_cons] at hn
    have c1 : (i : Int) < l.length := by omega
    have c2 : (i : Int) < ((l.take i ++ List.replicate (r.length + 1) (0 : Int)).length : Int) := by simp; omega
    have hset : (l.take i ++ List.replicate (r.length + 1) (0 : Int)).set i x = l.take (i + 1) ++ List.replicate r.length 0 := by
      rw [take_getD l 0 hlt, getD_of_drop h, List.replicate_succ, List.set_append_right _ _ (by simp; omega)]
      simp [Nat.min_eq_left hi]
    simp only [f23l1, List.length_cons, c1, c2, decide_true, cond_true, show (0 : Int) ≤ i by omega, Bool.and_self, Int.toNat_natCast, getD_of_drop h, hset]
    rw [w64s i (by omega), bindS, ih m (i + 1) (drop_of_drop h) hlt (by omega)]
    unfold lvOk
    by_cases h1 : x < 0
    · simp [h1]
    · by_cases h2 : 15872 < x
      · simp [h1, h2]
      · simp [h1, h2]
theorem f23l3_eq {N : Nat} (hN : 100 ≤ N) {l : List Int} {n : Nat} (hn : 1 ≤ n) (hn' : n ≤ 15) (hl : l.length ≤ 32) (hv : ∀ k, k < l.length → 0 ≤ l.getD k 0 ∧ l.getD k 0 ≤ 15872) : ∀ (k m i : Nat) (u : List Int), i + k = l.length → u.length = l.length → (∀ j, j < i → IsUp l n j (u.getD j 0)) → (∀ j, i ≤ j → u.getD j 0 = l.getD j 0) →
    ∃ r : List Int, f23l3 N (m + k + 1) u n l.length i = some ((r, ()), ((), ())) ∧ r.length = l.length ∧ ∀ j, j < l.length → IsUp l n j (r.getD j 0) := by
  intro k
  induction k with
  | zero =>
    intro m i u h hu hp _
    obtain rfl : i = l.length := by omega
    exact ⟨u, by simp [f23l3], hu, hp⟩
  | succ k ih =>
    intro m i u h hu hp hq
    have ih' := fun u => ih m (i + 1) u (by omega)
    rw [show m + (k + 1) + 1 = (m + k + 1) + 1 by omega]
    generalize m + k + 1 = M at ih' ⊢
    have c1 : (i : Int) < (l.length : Int) := by omega
    have c2 : (i : Int) < (u.length : Int) := by omega
    have c3 : (!((n : Int) == 0)) = true := by
      have : (n : Int) ≠ 0 := by omega
      simpa using this
    have e1 : Int.tmod (i : Int) (n : Int) = ((i % n : Nat) : Int) := rfl
    simp only [f23l3, c1, c2, c3, e1, decide_true, cond_true, show (0 : Int) ≤ i by omega, Bool.and_self, Int.toNat_natCast]
    rw [w64s i (by omega)]
    by_cases hr : 0 < i % n
    · have hi : 0 < i := by
        rcases Nat.eq_zero_or_pos i with rfl | h'
        · simp at hr
        · exact h'
      have c4 : (0 : Int) < ((i % n : Nat) : Int) := by omega
      have hup := hp (i - 1) (by omega)
      have hub : -100000 ≤ u.getD (i - 1) 0 ∧ u.getD (i - 1) 0 ≤ 100000 := by
        obtain ⟨p1, k0, p2, p3, p4⟩ := hup
        have h1 := p1 (i - 1) (Nat.le_refl _) rfl
        have h2 := hv k0 (by omega)
        have h3 := hv (i - 1) (by omega)
        have h4 : cost (i - 1) (i - 1) = 0 := by unfold cost; simp
        have h5 : 0 ≤ cost k0 (i - 1) := by unfold cost; rw [if_pos p2]; omega
        omega
      rw [w64 (n := (i : Int) - 1) (by omega) (by omega), show (i : Int) - 1 = ((i - 1 : Nat) : Int) by omega, Int.toNat_natCast, w64 (n := u.getD (i - 1) 0 - 384) (by omega) (by omega)]
      have c5 : ((i - 1 : Nat) : Int) < (u.length : Int) := by omega
      simp only [c4, c5, decide_true, cond_true, show (0 : Int) ≤ ((i - 1 : Nat) : Int) by omega, Bool.and_self, f40_two (show 10 ≤ N by omega), Option.bind_some, bindS]
      have hnew := IsUp.next hr hi hup
      rw [hq i (Nat.le_refl _)]
      refine ih' _ (by simp [hu]) (fun j hj => ?_) (fun j hj => ?_)
      · rw [set_getD _ _ _ _ (by omega)]
        by_cases hji : j = i
        · rw [if_pos hji, hji]; exact hnew
        · rw [if_neg hji]; exact hp j (by omega)
      · rw [set_getD _ _ _ _ (by omega), if_neg (by omega)]; exact hq j (by omega)
    · have c4 : ¬ (0 : Int) < ((i % n : Nat) : Int) := by omega
      simp only [c4, decide_false, cond_false, bindS]
      refine ih' u hu (fun j hj => ?_) (fun j hj => hq j (by omega))
      by_cases hji : j = i
      · subst hji
        rw [hq j (Nat.le_refl _)]
        exact IsUp.first (by omega)
      · exact hp j (by omega)
theorem f23l5_eq {N : Nat} (hN : 100 ≤ N) {l : List Int} {n : Nat} (hn : 1 ≤ n) (hn' : n ≤ 15) (hl : l.length ≤ 32) (hmod : l.length % n = 0) (hv : ∀ k, k < l.length → 0 ≤ l.getD k 0 ∧ l.getD k 0 ≤ 15872) : ∀ (i m : Nat) (u : List Int), i ≤ l.length → u.length = l.length → (∀ j, i ≤ j → j < l.length → IsSp l n j (u.getD j 0)) → (∀ j, j < i → IsUp l n j (u.getD j 0)) →
    ∃ r : List Int, f23l5 N (m + i + 1) u n ((i : Int) - 1) = some ((r, ()), ((), ())) ∧ r.length = l.length ∧ ∀ j, j < l.length → IsSp l n j (r.getD j 0) := by
  intro i
  induction i with
  | zero =>
    intro m u _ hu hp _
    exact ⟨u, by simp [f23l5], hu, fun j hj => hp j (Nat.zero_le _) hj⟩
  | succ i ih =>
    intro m u h hu hp hq
    have ih' := fun u => ih m u (by omega)
    rw [show m + (i + 1) + 1 = (m + i + 1) + 1 by omega]
    generalize m + i + 1 = M at ih' ⊢
    have hm : ((i + 1 : Nat) : Int) - 1 = (i : Int) := by omega
    have c2 : (i : Int) < (u.length : Int) := by omega
    have c3 : (!((n : Int) == 0)) = true := by
      have : (n : Int) ≠ 0 := by omega
      simpa using this
    have e1 : Int.tmod (i : Int) (n : Int) = ((i % n : Nat) : Int) := rfl
    rw [hm]
    simp only [f23l5, c2, c3, e1, decide_true, cond_true, show (0 : Int) ≤ i by omega, Bool.and_self, Int.toNat_natCast]
    rw [w64 (n := (i : Int) - 1) (by omega) (by omega), w64 (n := (n : Int) - 1) (by omega) (by omega), w64s i (by omega)]
    have hui := hq i (by omega)
    by_cases hr : i % n + 1 < n
    · have c4 : ((i % n : Nat) : Int) < (n : Int) - 1 := by omega
      have hlen : i + 1 < l.length := by
        have h1 := row_end (n := n) (b := i) (len := l.length) (by omega) hmod (by omega)
        have h2 := Nat.div_add_mod i n
        rw [Nat.mul_comm] at h2
        omega
      have hsp := hp (i + 1) (by omega) hlen
      have hub : -100000 ≤ u.getD (i + 1) 0 ∧ u.getD (i + 1) 0 ≤ 100000 := by
        obtain ⟨p1, k0, p2, p3, p4⟩ := hsp
        have h1 := p1 (i + 1) hlen rfl
        have h2 := hv k0 p2
        have h3 := hv (i + 1) hlen
        have h4 : cost (i + 1) (i + 1) = 0 := by unfold cost; simp
        have h5 : 0 ≤ cost k0 (i + 1) := by unfold cost; split <;> omega
        omega
      have c5 : ((i + 1 : Nat) : Int) < (u.length : Int) := by omega
      rw [Int.toNat_natCast, w64 (n := u.getD (i + 1) 0 - 768) (by omega) (by omega)]
      simp only [c4, c5, decide_true, cond_true, show (0 : Int) ≤ ((i + 1 : Nat) : Int) by omega, Bool.and_self, f40_two (show 10 ≤ N by omega), Option.bind_some, bindS]
      have hnew := IsSp.next (by omega) hr hui hsp
      refine ih' _ (by simp [hu]) (fun j hj hjl => ?_) (fun j hj => ?_)
      · rw [set_getD _ _ _ _ (by omega)]
        by_cases hji : j = i
        · rw [if_pos hji, hji]; exact hnew
        · rw [if_neg hji]; exact hp j (by omega) hjl
      · rw [set_getD _ _ _ _ (by omega), if_neg (by omega)]; exact hq j (by omega)
    · have c4 : ¬ ((i % n : Nat) : Int) < (n : Int) - 1 := by omega
      simp only [c4, decide_false, cond_false, bindS]
      refine ih' u hu (fun j hj hjl => ?_) (fun j hj => hq j (by omega))
      by_cases hji : j = i
      · subst hji
        exact IsSp.last (by omega) (by omega) hr hui
      · exact hp j (by omega) hjl
/-- The errors of spreading. -/
def se (l : List Int) (n : Int) : Int := if n < 1 ∨ 15 < n then 1 else if 32 < l.length then 2 else if Int.tmod l.length n ≠ 0 then 4 else if l.all lvOk = true then 0 else 6
theorem lvOk_iff {l : List Int} : l.all lvOk = true ↔ ∀ x ∈ l, 0 ≤ x ∧ x ≤ 15872 := by
  rw [List.all_eq_true]
  unfold lvOk
  constructor
  · intro h x hx
    have := h x hx
    simp at this
    omega
  · intro h x hx
    have := h x hx
    simp
    omega
theorem se_ok {l : List Int} {n : Int} (h : se l n = 0) : ∃ k : Nat, n = k ∧ 1 ≤ k ∧ k ≤ 15 ∧ l.length ≤ 32 ∧ l.length % k = 0 ∧ ∀ x ∈ l, 0 ≤ x ∧ x ≤ 15872 := by
  unfold se at h
  split at h
  · cases h
  · split at h
    · cases h
    · split at h
      · cases h
      · split at h
        · rename_i h1 h2 h3 h4
          refine ⟨n.toNat, by omega, by omega, by omega, by omega, ?_, lvOk_iff.1 h4⟩
          have e : Int.tmod (l.length : Int) n = ((l.length % n.toNat : Nat) : Int) := by
            rw [show n = (n.toNat : Int) by omega]; rfl
          omega
        · cases h
theorem f23_eq {N : Nat} (hN : 2000 ≤ N) (l : List Int) (n : Int) : ∃ r : List Int, f23F N l n = some ((r, ()), ((), (se l n, ()))) ∧ (se l n ≠ 0 → r = []) ∧ (se l n = 0 → r.length = l.length ∧ ∀ j, j < l.length → IsSp l n.toNat j (r.getD j 0)) := by
  unfold f23F se
  by_cases h1 : n < 1
  · exact ⟨[], by simp [h1], by simp, by simp [h1]⟩
  · by_cases h2 : 15 < n
    · exact ⟨[], by simp [h1, h2], by simp, by simp [h2]⟩
    · by_cases h3 : 32 < l.length
      · have : 32 < (l.length : Int) := by omega
        exact ⟨[], by simp [h1, h2, h3, this], by simp, by simp [h1, h2, h3]⟩
      · have c3 : ¬ 32 < (l.length : Int) := by omega
        have c4 : (!(n == 0)) = true := by
          have : n ≠ 0 := by omega
          simpa using this
        obtain ⟨k, rfl⟩ : ∃ k : Nat, n = k := ⟨n.toNat, by omega⟩
        by_cases h4 : Int.tmod l.length k ≠ 0
        · have : (Int.tmod l.length k != 0) = true := by simpa using h4
          exact ⟨[], by simp [h1, h2, h3, c3, c4, this, h4], by simp, by simp [h1, h2, h3, h4]⟩
        · have c5 : (Int.tmod l.length k != 0) = false := by simpa using h4
          have hb : (l.length : Int) * 8 ≤ 140737488355328 := by omega
          have hcp := f23l1_eq (N := N) (l := l) (by omega) l N 0 rfl (Nat.zero_le _) (by omega)
          rw [List.take_zero, List.nil_append, show ((0 : Nat) : Int) = 0 from rfl] at hcp
          by_cases h5 : l.all lvOk = true
          · have hval := lvOk_iff.1 h5
            have hv : ∀ j, j < l.length → 0 ≤ l.getD j 0 ∧ l.getD j 0 ≤ 15872 := fun j hj => hval _ (getD_mem hj)
            have hmod : l.length % k = 0 := by
              have e : Int.tmod (l.length : Int) (k : Int) = ((l.length % k : Nat) : Int) := rfl
              omega
            obtain ⟨m1, hm1⟩ : ∃ m, N = m + l.length + 1 := ⟨N - l.length - 1, by omega⟩
            obtain ⟨u, e1, e2, e3⟩ := f23l3_eq (N := N) (by omega) (n := k) (by omega) (by omega) (show l.length ≤ 32 by omega) hv l.length m1 0 l (by omega) rfl (fun j hj => by omega) (fun j _ => rfl)
            obtain ⟨r, g1, g2, g3⟩ := f23l5_eq (N := N) (by omega) (n := k) (by omega) (by omega) (show l.length ≤ 32 by omega) hmod hv l.length m1 u (Nat.le_refl _) e2 (fun j h1 h2 => by omega) e3
            rw [← hm1, show ((0 : Nat) : Int) = 0 from rfl] at e1
            rw [← hm1] at g1
            refine ⟨r, ?_, by simp [h1, h2, h3, h4, h5], fun _ => ⟨g2, by simpa using g3⟩⟩
            rw [if_neg (by omega), if_neg h3, if_neg h4, if_pos h5]
            simp only [h1, h2, c3, c4, c5, decide_false, cond_false, cond_true, beq_self_eq_true, show (0 : Int) ≤ (l.length : Int) by omega, hb, decide_true, Bool.and_self, Int.toNat_natCast]
            rw [hcp, if_pos h5]
            simp only [Option.bind_some, Sum.elim_inl]
            rw [e1]
            simp only [Option.bind_some]
            rw [e2, w64 (n := (l.length : Int) - 1) (by omega) (by omega), g1]
            rfl
          · refine ⟨[], ?_, by simp, by simp [h1, h2, h3, h4, h5]⟩
            rw [if_neg (by omega), if_neg h3, if_neg h4, if_neg h5]
            simp only [h1, h2, c3, c4, c5, decide_false, cond_false, cond_true, beq_self_eq_true, show (0 : Int) ≤ (l.length : Int) by omega, hb, decide_true, Bool.and_self, Int.toNat_natCast]
            rw [hcp, if_neg h5]
            rfl
end Go.Sh.c11

namespace Go.Sh.c11

theorem f24l1_eq {N : Nat} {l : List Int} (hl : l.length ≤ 1000) (hN : 2000 ≤ N) : f24l1 N N l l.length 0 = if l.all lvOk = true then some (.inl ((), ())) else some (.inr ((([] : List Int), ()), ((), (6, ())))) := by
  have h := range_go (l := l) 0 (f := fun n (_ : Unit) i => f24l1 N n l l.length i) (step := fun _ x => if lvOk x = true then .inl () else .inr (6 : Int)) (fun _ _ => True) (fin := fun _ => some (.inl ((), ()))) (out := fun e => some (.inr ((([] : List Int), ()), ((), (e, ()))))) (fun n i s hi _ => by
    have c1 : (i : Int) < (l.length : Int) := by omega
    refine ⟨?_, fun _ _ => trivial⟩
    simp only [f24l1, c1, decide_true, cond_true, show (0 : Int) ≤ i by omega, Bool.and_self, Int.toNat_natCast]
    rw [w64s i (by omega), bindS]
    unfold lvOk
    by_cases h1 : l.getD i 0 < 0
    · simp only [h1, decide_true, cond_true, Bool.not_true, Bool.false_and]; rfl
    · by_cases h2 : 15872 < l.getD i 0
      · simp only [h1, h2, decide_true, decide_false, cond_true, cond_false, Bool.not_true, Bool.and_false]; rfl
      · simp only [h1, h2, decide_false, cond_false, Bool.not_false, Bool.and_self]; rfl) (fun n s _ => by simp [f24l1]) l N 0 () rfl (Nat.zero_le _) (by omega) trivial
  rw [show ((0 : Nat) : Int) = 0 from rfl] at h
  rw [h, goL_cond]
  split <;> rfl
theorem cost_bound {k b : Nat} (h1 : k ≤ 1000) (h2 : b ≤ 1000) : 0 ≤ cost k b ∧ cost k b ≤ 768000 := by
  unfold cost; split <;> omega
theorem f24l5_eq {N : Nat} {l : List Int} {n b : Nat} (hn : 1 ≤ n) (hn' : n ≤ 15) (hl : l.length ≤ 32) (hmod : l.length % n = 0) (hb : b < l.length) (hv : ∀ k, k < l.length → 0 ≤ l.getD k 0 ∧ l.getD k 0 ≤ 15872) : ∀ (c m k : Nat) (v : Int), k + c = b / n * n + n → b / n * n ≤ k → 0 ≤ v → v ≤ 100000 → (∀ j, b / n * n ≤ j → j < k → l.getD j 0 - cost j b ≤ v) → (v = 0 ∨ ∃ j, b / n * n ≤ j ∧ j < k ∧ v = l.getD j 0 - cost j b) →
    ∃ r : Int, f24l5 N (m + c + 1) l n b v ((b / n * n : Nat) : Int) k = some ((), (r, ())) ∧ IsSp l n b r := by
  have hend := row_end (by omega) hmod hb
  have hbrow : b / n * n ≤ b ∧ b < b / n * n + n := by
    have h1 := Nat.div_add_mod b n
    have h2 := Nat.mod_lt b (show 0 < n by omega)
    rw [Nat.mul_comm] at h1
    omega
  have hrow : ∀ j, b / n * n ≤ j → j < b / n * n + n → j / n = b / n := fun j h1 h2 => by
    have e : j = n * (b / n) + (j - b / n * n) := by rw [Nat.mul_comm]; omega
    rw [e, Nat.mul_add_div (by omega), Nat.div_eq_of_lt (show j - b / n * n < n by omega), Nat.add_zero]
  have hrow' : ∀ j, j / n = b / n → b / n * n ≤ j ∧ j < b / n * n + n := fun j h => by
    have h1 := Nat.div_add_mod j n
    have h2 := Nat.mod_lt j (show 0 < n by omega)
    rw [h, Nat.mul_comm] at h1
    omega
  generalize hR : b / n * n = R at *
  intro c
  induction c with
  | zero =>
    intro m k v h hk h0 h1 hp hq
    obtain rfl : k = R + n := by omega
    have c1 : ¬ ((R + n : Nat) : Int) < (R : Int) + n := by omega
    refine ⟨v, ?_, fun j hj hs => hp j (hrow' j hs).1 (hrow' j hs).2, ?_⟩
    · simp only [f24l5]
      rw [w64 (n := (R : Int) + n) (by omega) (by omega)]
      simp [c1]
    · rcases hq with rfl | ⟨j, a1, a2, a3⟩
      · refine ⟨b, hb, rfl, ?_⟩
        have := hp b hbrow.1 hbrow.2
        have e : cost b b = 0 := by unfold cost; simp
        have := hv b hb
        omega
      · exact ⟨j, by omega, hrow j a1 a2, a3⟩
  | succ c ih =>
    intro m k v h hk h0 h1 hp hq
    have ih' := fun v => ih m (k + 1) v (by omega) (by omega)
    rw [show m + (c + 1) + 1 = (m + c + 1) + 1 by omega]
    generalize m + c + 1 = M at ih' ⊢
    have c1 : (k : Int) < (R : Int) + n := by omega
    have hkl : k < l.length := by omega
    have c2 : (k : Int) < (l.length : Int) := by omega
    have hlk := hv k hkl
    have hcb := cost_bound (k := k) (b := b) (by omega) (by omega)
    have fin : ∃ r : Int, f24l5 N M l n b (if l.getD k 0 - cost k b > v then l.getD k 0 - cost k b else v) (R : Int) ((k + 1 : Nat) : Int) = some ((), (r, ())) ∧ IsSp l n b r := by
      refine ih' _ (by split <;> omega) (by split <;> omega) (fun j a1 a2 => ?_) ?_
      · by_cases hj : j = k
        · subst hj; split <;> omega
        · have := hp j a1 (by omega)
          split <;> omega
      · split
        · exact .inr ⟨k, hk, by omega, rfl⟩
        · rcases hq with rfl | ⟨j, a1, a2, a3⟩
          · exact .inl rfl
          · exact .inr ⟨j, a1, by omega, a3⟩
    simp only [f24l5]
    rw [w64 (n := (R : Int) + n) (by omega) (by omega), w64s k (by omega)]
    simp only [c1, c2, decide_true, cond_true, show (0 : Int) ≤ k by omega, Bool.and_self, Int.toNat_natCast]
    by_cases hkb : k ≤ b
    · have c3 : (k : Int) ≤ b := by omega
      have e : cost k b = 384 * ((b : Int) - k) := by unfold cost; rw [if_pos hkb]
      rw [w64 (n := (b : Int) - k) (by omega) (by omega), w64 (n := 384 * ((b : Int) - k)) (by omega) (by omega), w64 (n := l.getD k 0 - 384 * ((b : Int) - k)) (by omega) (by omega), ← e]
      simp only [c3, decide_true, cond_true, bindS]
      exact fin
    · have c3 : ¬ (k : Int) ≤ b := by omega
      have e : cost k b = 768 * ((k : Int) - b) := by unfold cost; rw [if_neg hkb]
      rw [w64 (n := (k : Int) - b) (by omega) (by omega), w64 (n := 768 * ((k : Int) - b)) (by omega) (by omega), w64 (n := l.getD k 0 - 768 * ((k : Int) - b)) (by omega) (by omega), ← e]
      simp only [c3, decide_false, cond_false, bindS]
      exact fin
theorem f24l3_eq {N : Nat} (hN : 2000 ≤ N) {l : List Int} {n : Nat} (hn : 1 ≤ n) (hn' : n ≤ 15) (hl : l.length ≤ 32) (hmod : l.length % n = 0) (hv : ∀ k, k < l.length → 0 ≤ l.getD k 0 ∧ l.getD k 0 ≤ 15872) : ∀ (k m i : Nat) (u : List Int), i + k = l.length → u.length = i → (∀ j, j < i → IsSp l n j (u.getD j 0)) →
    ∃ r : List Int, f24l3 N (m + k + 1) u l n l.length i = some ((r, ()), ((), ())) ∧ r.length = l.length ∧ ∀ j, j < l.length → IsSp l n j (r.getD j 0) := by
  intro k
  induction k with
  | zero =>
    intro m i u h hu hp
    obtain rfl : i = l.length := by omega
    exact ⟨u, by simp [f24l3], hu, hp⟩
  | succ k ih =>
    intro m i u h hu hp
    have ih' := fun u => ih m (i + 1) u (by omega)
    rw [show m + (k + 1) + 1 = (m + k + 1) + 1 by omega]
    generalize m + k + 1 = M at ih' ⊢
    have c1 : (i : Int) < (l.length : Int) := by omega
    have c3 : (!((n : Int) == 0)) = true := by
      have : (n : Int) ≠ 0 := by omega
      simpa using this
    have e1 : Int.tdiv (i : Int) (n : Int) = ((i / n : Nat) : Int) := rfl
    have hR : i / n * n ≤ i := Nat.div_mul_le_self _ _
    have hq : i / n ≤ i := Nat.div_le_self _ _
    obtain ⟨m1, hm1⟩ : ∃ m, N = m + n + 1 := ⟨N - n - 1, by omega⟩
    obtain ⟨r, g1, g2⟩ := f24l5_eq (N := N) hn hn' hl hmod (show i < l.length by omega) hv n m1 (i / n * n) 0 rfl (Nat.le_refl _) (by omega) (by omega) (fun j a b => by omega) (.inl rfl)
    rw [← hm1] at g1
    have hb : (u.length + 1) * 8 ≤ 140737488355328 := by omega
    simp only [f24l3, c1, c3, e1, decide_true, cond_true]
    rw [w64 (n := ((i / n : Nat) : Int)) (Int.le_trans (by decide) (Int.natCast_nonneg _)) (Int.le_trans (Int.ofNat_le.2 hq) (by omega)), ← Int.natCast_mul, w64 (n := ((i / n * n : Nat) : Int)) (by omega) (by omega), g1]
    simp only [Option.bind_some, List.length_cons, List.length_nil, Nat.zero_add, hb, decide_true, cond_true, bindS]
    rw [w64s i (by omega)]
    refine ih' _ (by simp [hu]) (fun j hj => ?_)
    by_cases hji : j = i
    · subst hji
      have : (List.append u [r]).getD j 0 = r := by simp [List.getD, hu]
      rw [this]; exact g2
    · have : (List.append u [r]).getD j 0 = u.getD j 0 := by simp [List.getD, List.getElem?_append_left (show j < u.length by omega)]
      rw [this]; exact hp j (by omega)
theorem f24_eq {N : Nat} (hN : 2000 ≤ N) (l : List Int) (n : Int) : ∃ r : List Int, f24F N l n = some ((r, ()), ((), (se l n, ()))) ∧ (se l n ≠ 0 → r = []) ∧ (se l n = 0 → r.length = l.length ∧ ∀ j, j < l.length → IsSp l n.toNat j (r.getD j 0)) := by
  unfold f24F se
  by_cases h1 : n < 1
  · exact ⟨[], by simp [h1], by simp, by simp [h1]⟩
  · by_cases h2 : 15 < n
    · exact ⟨[], by simp [h1, h2], by simp, by simp [h2]⟩
    · by_cases h3 : 32 < l.length
      · have : 32 < (l.length : Int) := by omega
        exact ⟨[], by simp [h1, h2, h3, this], by simp, by simp [h1, h2, h3]⟩
      · have c3 : ¬ 32 < (l.length : Int) := by omega
        have c4 : (!(n == 0)) = true := by
          have : n ≠ 0 := by omega
          simpa using this
        obtain ⟨k, rfl⟩ : ∃ k : Nat, n = k := ⟨n.toNat, by omega⟩
        have e : Int.tmod (l.length : Int) (k : Int) = ((l.length % k : Nat) : Int) := rfl
        by_cases h4 : Int.tmod l.length k ≠ 0
        · have c5 : 0 < Int.tmod (l.length : Int) k := by omega
          exact ⟨[], by simp [h1, h2, h3, c3, c4, c5, h4], by simp, by simp [h1, h2, h3, h4]⟩
        · have c5 : ¬ 0 < Int.tmod (l.length : Int) k := by omega
          have hcp := f24l1_eq (N := N) (l := l) (by omega) hN
          by_cases h5 : l.all lvOk = true
          · have hval := lvOk_iff.1 h5
            have hv : ∀ j, j < l.length → 0 ≤ l.getD j 0 ∧ l.getD j 0 ≤ 15872 := fun j hj => hval _ (getD_mem hj)
            have hmod : l.length % k = 0 := by omega
            obtain ⟨m1, hm1⟩ : ∃ m, N = m + l.length + 1 := ⟨N - l.length - 1, by omega⟩
            obtain ⟨r, g1, g2, g3⟩ := f24l3_eq (N := N) hN (n := k) (by omega) (by omega) (show l.length ≤ 32 by omega) hmod hv l.length m1 0 [] (by omega) rfl (fun j hj => by omega)
            rw [← hm1, show ((0 : Nat) : Int) = 0 from rfl] at g1
            refine ⟨r, ?_, by simp [h1, h2, h3, h4, h5], fun _ => ⟨g2, by simpa using g3⟩⟩
            rw [if_neg (by omega), if_neg h3, if_neg h4, if_pos h5]
            simp only [h1, h2, c3, c4, c5, decide_false, cond_false, cond_true]
            rw [hcp, if_pos h5]
            simp only [Option.bind_some, Sum.elim_inl]
            rw [g1]
            rfl
          · refine ⟨[], ?_, by simp, by simp [h1, h2, h3, h4, h5]⟩
            rw [if_neg (by omega), if_neg h3, if_neg h4, if_neg h5]
            simp only [h1, h2, c3, c4, c5, decide_false, cond_false, cond_true]
            rw [hcp, if_neg h5]
            rfl
/-- A spread is what its law says, and nothing else. -/
theorem sp_unique {l r r' : List Int} {n : Nat} (h : r.length = l.length) (h' : r'.length = l.length) (hr : ∀ j, j < l.length → IsSp l n j (r.getD j 0)) (hr' : ∀ j, j < l.length → IsSp l n j (r'.getD j 0)) : r = r' :=
  p10.ext_getD (by omega) fun k hk => (hr k (by omega)).unique (hr' k (by omega))
theorem spread_same (l : List Int) (n : Int) : f23F 200000 l n = f24F 200000 l n := by
  obtain ⟨r, a1, a2, a3⟩ := f23_eq (N := 200000) (by omega) l n
  obtain ⟨r', b1, b2, b3⟩ := f24_eq (N := 200000) (by omega) l n
  have : r = r' := by
    by_cases h : se l n = 0
    · obtain ⟨x1, x2⟩ := a3 h
      obtain ⟨y1, y2⟩ := b3 h
      exact sp_unique x1 y1 x2 y2
    · rw [a2 h, b2 h]
  rw [a1, b1, this]
theorem energySpread (l : List Int) (n : Int) : f5F 200000 l n = some ((), (true, ())) := by
  unfold f5F
  obtain ⟨r, a1, a2, a3⟩ := f23_eq (N := 200000) (by omega) l n
  have hl : r.length ≤ 1000 := by
    by_cases h : se l n = 0
    · have := (a3 h).1
      obtain ⟨_, _, _, _, h5, _⟩ := se_ok h
      omega
    · rw [a2 h]; simp
  rw [few_one, ← spread_same, a1, awake11]
  simp only [Option.bind_some, ints_self hl]
  by_cases h : l.length ≤ 300 <;> simp [h]
/-! ### EnergySpreads -/
theorem cost_tri (j k b : Nat) : cost j b ≤ cost j k + cost k b := by
  unfold cost
  repeat' split
  all_goals omega
theorem cost_pos (k b : Nat) : 0 ≤ cost k b := by
  unfold cost; split <;> omega
theorem IsSp.range {l : List Int} {n b : Nat} {v : Int} (h : IsSp l n b v) (hb : b < l.length) (hv : ∀ x ∈ l, 0 ≤ x ∧ x ≤ 15872) : l.getD b 0 ≤ v ∧ v ≤ 15872 := by
  obtain ⟨h1, k, h2, h3, h4⟩ := h
  have := h1 b hb rfl
  have e : cost b b = 0 := by unfold cost; simp
  have := hv _ (getD_mem (d := 0) h2)
  have := cost_pos k b
  omega
theorem IsSp.again {l r : List Int} {n : Nat} (h : r.length = l.length) (hr : ∀ j, j < l.length → IsSp l n j (r.getD j 0)) : ∀ j, j < r.length → IsSp r n j (r.getD j 0) := fun b hb => by
  refine ⟨fun k hk hs => ?_, b, hb, rfl, by unfold cost; simp⟩
  obtain ⟨_, j, h2, h3, h4⟩ := hr k (by omega)
  have := (hr b (by omega)).1 j h2 (by omega)
  have := cost_tri j k b
  omega
theorem IsSp.mono {l l' : List Int} {n b : Nat} {u v : Int} (hl : l'.length = l.length) (hle : ∀ k, k < l.length → l.getD k 0 ≤ l'.getD k 0) (hu : IsSp l n b u) (hv : IsSp l' n b v) : u ≤ v := by
  obtain ⟨_, k, h2, h3, h4⟩ := hu
  have := hv.1 k (by omega) h3
  have := hle k h2
  omega
theorem se_of {l l' : List Int} {n : Int} (h : se l n = 0) (hl : l'.length = l.length) (hv : ∀ x ∈ l', 0 ≤ x ∧ x ≤ 15872) : se l' n = 0 := by
  obtain ⟨k, rfl, h1, h2, h3, h4, _⟩ := se_ok h
  unfold se
  have e : Int.tmod (l'.length : Int) (k : Int) = ((l'.length % k : Nat) : Int) := rfl
  rw [if_neg (by omega), if_neg (by omega), if_neg (by rw [e, hl]; omega), if_pos (lvOk_iff.2 hv)]
theorem f7l0_eq {N : Nat} {l a more : List Int} (hl : l.length ≤ 32) (ha : a.length = l.length) (hlv : ∀ x ∈ l, 0 ≤ x ∧ x ≤ 15872) (hal : ∀ j, j < l.length → l.getD j 0 ≤ a.getD j 0 ∧ a.getD j 0 ≤ 15872) (hm : ∀ x ∈ more, 0 ≤ x ∧ x ≤ 65535) : ∀ (k m i : Nat) (v : List Int), i + k = l.length → v.length = i → (∀ x ∈ v, 0 ≤ x ∧ x ≤ 15872) → (∀ j, j < i → l.getD j 0 ≤ v.getD j 0) →
    ∃ r : List Int, f7l0 N (m + k + 1) v more a l l.length i = some (.inl ((r, ()), ((), ()))) ∧ r.length = l.length ∧ (∀ x ∈ r, 0 ≤ x ∧ x ≤ 15872) ∧ ∀ j, j < l.length → l.getD j 0 ≤ r.getD j 0 := by
  intro k
  induction k with
  | zero =>
    intro m i v h hv hp hq
    obtain rfl : i = l.length := by omega
    exact ⟨v, by simp [f7l0], hv, hp, hq⟩
  | succ k ih =>
    intro m i v h hv hp hq
    have ih' := fun v => ih m (i + 1) v (by omega)
    rw [show m + (k + 1) + 1 = (m + k + 1) + 1 by omega]
    generalize m + k + 1 = M at ih' ⊢
    have c1 : (i : Int) < (l.length : Int) := by omega
    have c2 : (i : Int) < (a.length : Int) := by omega
    obtain ⟨x1, x2⟩ := hal i (by omega)
    have hx := hlv _ (getD_mem (l := l) (i := i) (d := 0) (by omega))
    have c3 : ¬ a.getD i 0 < l.getD i 0 := by omega
    have c4 : ¬ 15872 < a.getD i 0 := by omega
    have hb : (v.length + 1) * 8 ≤ 140737488355328 := by omega
    have app : ∀ y, l.getD i 0 ≤ y → y ≤ 15872 → ∃ r : List Int, f7l0 N M (List.append v [y]) more a l l.length ((i + 1 : Nat) : Int) = some (.inl ((r, ()), ((), ()))) ∧ r.length = l.length ∧ (∀ x ∈ r, 0 ≤ x ∧ x ≤ 15872) ∧ ∀ j, j < l.length → l.getD j 0 ≤ r.getD j 0 := by
      intro y h1 h2
      refine ih' _ (by simp [hv]) (fun x hx' => ?_) (fun j hj => ?_)
      · have hx' : x ∈ v ++ [y] := hx'
        rcases List.mem_append.1 hx' with h | h
        · exact hp x h
        · have : x = y := by simpa using h
          omega
      · by_cases hji : j = i
        · subst hji
          have : (List.append v [y]).getD j 0 = y := by simp [List.getD, hv]
          rw [this]; exact h1
        · have : (List.append v [y]).getD j 0 = v.getD j 0 := by simp [List.getD, List.getElem?_append_left (show j < v.length by omega)]
          rw [this]; exact hq j (by omega)
    simp only [f7l0, c1, c2, c3, c4, decide_true, decide_false, cond_true, cond_false, show (0 : Int) ≤ i by omega, Bool.and_self, Int.toNat_natCast]
    rw [w64s i (by omega)]
    by_cases hmi : (i : Int) < (more.length : Int)
    · have hy := hm _ (getD_mem (l := more) (i := i) (d := 0) (by omega))
      rw [w64 (n := more.getD i 0) (by omega) (by omega), w64 (n := l.getD i 0 + more.getD i 0) (by omega) (by omega)]
      simp only [hmi, decide_true, cond_true, Bool.and_self, List.length_cons, List.length_nil, Nat.zero_add, hb, bindS]
      exact app _ (by split <;> omega) (by split <;> omega)
    · simp only [hmi, decide_false, cond_false, List.length_cons, List.length_nil, Nat.zero_add, hb, decide_true, cond_true, bindS]
      exact app _ (Int.le_refl _) (by omega)
theorem f7l2_eq {N : Nat} {a c : List Int} (ha : a.length ≤ 32) (hc : c.length = a.length) (hN : 1000 < N) (h : ∀ j, j < a.length → a.getD j 0 ≤ c.getD j 0) : f7l2 N N a c a.length 0 = some (.inl ((), ())) := by
  have h := range_fold (l := a) 0 (f := fun n (_ : Unit) i => f7l2 N n a c a.length i) (step := fun _ _ => ()) (fun _ _ => True) (fin := fun _ => some (.inl ((), ()))) (fun n i s hi _ => by
    have c1 : (i : Int) < (a.length : Int) := by omega
    have c2 : (i : Int) < (c.length : Int) := by omega
    have hx := h i hi
    have c3 : ¬ c.getD i 0 < a.getD i 0 := by omega
    refine ⟨?_, trivial⟩
    simp only [f7l2, c1, c2, c3, decide_true, decide_false, cond_true, cond_false, show (0 : Int) ≤ i by omega, Bool.and_self, Int.toNat_natCast]
    rw [w64s i (by omega), bindS]) (fun n s _ => by simp [f7l2]) N () (by omega) trivial
  exact h
theorem energySpreads (l : List Int) (_ : Fit (.list (.int .i64)) l) (more : List Int) (fm : Fit (.list (.int .u16)) more) (n : Int) (_ : Fit (.int .i64) n) : f7F 200000 l more n = some ((), (true, ())) := by
  have hm : ∀ x ∈ more, 0 ≤ x ∧ x ≤ 65535 := fun x hx => by
    have h0 : Fit (.int .u16) x := fm x hx
    have h1 : decide (IntKind.u16.min ≤ x ∧ x ≤ IntKind.u16.max) = true := by simpa [Fit, Lit.wf] using h0
    exact of_decide_eq_true h1
  unfold f7F
  rw [awake11]
  by_cases h32 : 32 < (l.length : Int)
  · simp [h32]
  · obtain ⟨a, a1, a2, a3⟩ := f23_eq (N := 200000) (by omega) l n
    rw [a1]
    by_cases h : se l n = 0
    · obtain ⟨al, asp⟩ := a3 h
      obtain ⟨k, rfl, k1, k2, k3, k4, lv⟩ := se_ok h
      rw [Int.toNat_natCast] at asp
      have ar : ∀ j, j < l.length → l.getD j 0 ≤ a.getD j 0 ∧ a.getD j 0 ≤ 15872 := fun j hj => (asp j hj).range hj lv
      have av : ∀ x ∈ a, 0 ≤ x ∧ x ≤ 15872 := fun x hx => by
        obtain ⟨q, hq, rfl⟩ := List.mem_iff_getElem.1 hx
        have h1 := ar q (by omega)
        have h2 := lv _ (getD_mem (l := l) (i := q) (d := 0) (by omega))
        have h3 : a.getD q 0 = a[q] := by simp [List.getD, List.getElem?_eq_getElem hq]
        omega
      obtain ⟨b, b1, b2, b3⟩ := f23_eq (N := 200000) (by omega) a k
      have hse := se_of h al av
      obtain ⟨bl, bsp⟩ := b3 hse
      rw [Int.toNat_natCast] at bsp
      have hba : b = a := sp_unique bl rfl bsp (IsSp.again al asp)
      subst hba
      obtain ⟨m1, hm1⟩ : ∃ m, 200000 = m + l.length + 1 := ⟨200000 - l.length - 1, by omega⟩
      obtain ⟨up, u1, u2, u3, u4⟩ := f7l0_eq (N := 200000) (show l.length ≤ 32 by omega) al lv ar hm l.length m1 0 [] (by omega) rfl (by simp) (fun j hj => by omega)
      rw [← hm1, show ((0 : Nat) : Int) = 0 from rfl] at u1
      obtain ⟨c, c1, c2, c3⟩ := f23_eq (N := 200000) (by omega) up k
      have hse2 := se_of h u2 u3
      obtain ⟨cl, csp⟩ := c3 hse2
      rw [Int.toNat_natCast] at csp
      have hac : ∀ j, j < b.length → b.getD j 0 ≤ c.getD j 0 := fun j hj => IsSp.mono u2 u4 (asp j (by omega)) (csp j (by omega))
      rw [hse] at b1
      rw [hse2] at c1
      simp only [h32, decide_false, cond_false, Option.bind_some, h, bne_self_eq_false, b1, ints_self (show b.length ≤ 1000 by omega), Bool.not_true]
      rw [show ((b.length : Int) != (l.length : Int)) = false by rw [al]; exact bne_self_eq_false _, u1]
      simp only [cond_false, Option.bind_some, Sum.elim_inl, c1, bne_self_eq_false]
      rw [show ((c.length : Int) != (b.length : Int)) = false by rw [cl, u2, al]; exact bne_self_eq_false _, f7l2_eq (by omega) (by omega) (by omega) hac]
      rfl
    · have h' : (se l n != 0) = true := by simpa using h
      simp [h32, h']
end Go.Sh.c11
