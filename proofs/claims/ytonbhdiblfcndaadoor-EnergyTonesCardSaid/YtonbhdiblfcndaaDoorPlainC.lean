/- Chapter 11: sums, what rises, tones. -/
import Derived.Test.YtonbhdiblfcndaaDoorPlainB
import Derived.Test.YtonbhdiblfcndaaDoorFrameG
set_option linter.unusedVariables false
set_option linter.unusedSimpArgs false
namespace Go.Sh.c11

theorem f25_eq {N : Nat} {l : List Int} {B : Int} (hB : 0 ≤ B) (hB' : B ≤ 1000000000000000) (h : ∀ x ∈ l, 0 ≤ x ∧ x ≤ B) (hl : l.length ≤ 1000) (hN : l.length < N) : f25F N l = some ((), (l.sum, ())) := by
  unfold f25F
  have hm : B * l.length ≤ 1000000000000000 * 1000 := Int.mul_le_mul hB' (by omega) (by omega) (by omega)
  have := sum_loop (l := l) (f := fun n s i => f25l0 N n s l l.length i) (g := fun x => x) (B := B) (fin := fun s => some ((), (s, ()))) hB (fun x hx => h x hx) (fun n i s hi h1 h2 h3 => by
    have c1 : (i : Int) < (l.length : Int) := by omega
    have hx := h _ (getD_mem (d := 0) hi)
    simp only [f25l0, c1, decide_true, cond_true, show (0 : Int) ≤ i by omega, Bool.and_self, Int.toNat_natCast]
    rw [w64 (n := s + l.getD i 0) (by omega) (by omega), w64s i (by omega), bindS]) (fun n s => by simp [f25l0]) N hN
  rw [this]; simp
theorem f6l0_eq {N : Nat} {l : List Int} (h : InR l) (hl : l.length ≤ 1000000) (hN : l.length < N) : f6l0 N N 0 l l.length 0 = some ((), (sq l, ())) := by
  exact sum_loop (l := l) (f := fun n s i => f6l0 N n s l l.length i) (g := fun x => x * x) (B := 4398046511104) (fin := fun s => some ((), (s, ()))) (by omega) (fun x hx => sq_one (h x hx)) (fun n i s hi h1 h2 h3 => by
    have c1 : (i : Int) < (l.length : Int) := by omega
    have hx := sq_one (getD_in h hi)
    simp only [f6l0, c1, decide_true, cond_true, show (0 : Int) ≤ i by omega, Bool.and_self, Int.toNat_natCast]
    rw [w64 (n := l.getD i 0 * l.getD i 0) (by omega) (by omega), w64 (n := s + l.getD i 0 * l.getD i 0) (by omega) (by omega), w64s i (by omega), bindS]) (fun n s => by simp [f6l0]) N hN
theorem blks_sum : ∀ (k : Nat) (l : List Int), l.length = 16 * k → (blks k l).sum = sq l
  | 0, l, h => by
    have : l = [] := List.length_eq_zero_iff.1 (by omega)
    subst this; rfl
  | k + 1, l, h => by
    simp only [blks, List.sum_cons]
    rw [blks_sum k (l.drop 16) (by simp; omega), sq_take_drop]
theorem blks_val : ∀ (k : Nat) (l : List Int), InR l → ∀ x ∈ blks k l, 0 ≤ x ∧ x ≤ 70368744177664
  | 0, _, _, x, hx => by cases hx
  | k + 1, l, h, x, hx => by
    rcases List.mem_cons.1 hx with rfl | hx
    · have := sq_bound (h.take 16)
      have h2 : (l.take 16).length ≤ 16 := by simp; omega
      omega
    · exact blks_val k _ (h.drop 16) x hx
theorem bnds_val {c : List Int} {s : Bool} {g : List Int} (h : Good c s g) : ∀ x ∈ (bnds c s g).map sq, 0 ≤ x ∧ x ≤ 562949953421312 := fun x hx => by
  obtain ⟨p, hp, rfl⟩ := List.mem_map.1 hx
  obtain ⟨a, _, b⟩ := h.bands p hp
  have := sq_bound a
  omega
theorem bnds_sum {c : List Int} {s : Bool} {g : List Int} (h : Good c s g) : ((bnds c s g).map sq).sum = sq c := by
  unfold bnds
  rw [cutW_sq _ _ (fun x hx => by have := (h.wval x hx).1; omega) (by rw [h.wsum, h.glen]; rfl), sq_gath h.d h.len]
theorem f25_bnds {c : List Int} {s : Bool} {g : List Int} (h : Good c s g) : f25F 200000 ((bnds c s g).map sq) = some ((), (sq c, ())) := by
  have hl : ((bnds c s g).map sq).length ≤ 32 := by rw [List.length_map, bnds_len]; exact h.wlen
  rw [f25_eq (B := 562949953421312) (by omega) (by omega) (bnds_val h) (by omega) (by omega), bnds_sum h]
theorem energySums (c g : List Int) : f6F 200000 c g = some ((), (true, ())) := by
  unfold f6F
  rw [f10_eq, awake11, f21_eq (by omega)]
  cases hb : decide (c.length ≤ 300) && decide (g.length ≤ 100) with
  | false => simp
  | true =>
    by_cases hs : sp c false [] = 0
    · have hh := Good.of hs
      have hlen : (blks 8 c).length ≤ 8 := by simp [blks]
      have e1 : f25F 200000 (blks 8 c) = some ((), (sq c, ())) := by
        rw [f25_eq (B := 70368744177664) (by omega) (by omega) (blks_val 8 c hh.inr) (by omega) (by omega), blks_sum 8 c (by rw [hh.len])]
      simp only [Option.bind_some, Bool.not_true, cond_false, hs, if_true, bne_self_eq_false]
      rw [f6l0_eq hh.inr (by rw [hh.len]; omega) (by rw [hh.len]; omega), f12_eq (by omega), f14_eq (by omega), f12_eq (by omega), f14_eq (by omega), p10.f23_eq (by omega)]
      simp only [Option.bind_some, hs, if_true, bne_self_eq_false, cond_false, f25_bnds hh, e1]
      cases hd : p10.isDiv true g with
      | false => simp
      | true =>
        have h2 := sp_of (s := true) (g := g) hd hh.len hh.inr
        simp only [h2, if_true, f25_bnds (Good.of h2), Option.bind_some]
        simp
    · have hs' : (sp c false [] != 0) = true := by simpa using hs
      simp [hs']
theorem lv_zero : lv 0 = 0 := by
  have := lv_pow 0
  simpa using this
theorem en_all {a b : Int} : ([a, b].all enOk = true) ↔ (0 ≤ a ∧ a ≤ 72057594037927936) ∧ (0 ≤ b ∧ b ≤ 72057594037927936) := by
  unfold enOk
  simp
theorem energyRising (a : Int) (_ : Fit (.int .i64) a) (b : Int) (_ : Fit (.int .i64) b) (x : Int) (fx : Fit (.int .u8) x) : f8F 200000 a b x = some ((), (true, ())) := by
  have hc : 0 ≤ x ∧ x ≤ 255 := by
    have h1 : decide (IntKind.u8.min ≤ x ∧ x ≤ IntKind.u8.max) = true := by simpa [Fit, Lit.wf] using fx
    exact of_decide_eq_true h1
  obtain ⟨k, rfl⟩ : ∃ k : Nat, x = k := ⟨x.toNat, by omega⟩
  have e1 : Int.tmod (k : Int) 57 = ((k % 57 : Nat) : Int) := rfl
  have c1 : ¬ ((k % 57 : Nat) : Int) < 0 := by omega
  have p1 := p03.pow2 (k % 57)
  have p2 := p03.pow2_le (show k % 57 ≤ 56 by omega)
  have hen : [0, (2 : Int) ^ (k % 57) - 1].all enOk = true := en_all.2 ⟨by omega, by omega⟩
  unfold f8F
  rw [w64 (n := (k : Int)) (by omega) (by omega), e1, w64 (n := 256 * ((k % 57 : Nat) : Int)) (by omega) (by omega), show min (Int.toNat ((k % 57 : Nat) : Int)) 64 = k % 57 by omega, Int.one_mul, w64 (n := 2 ^ (k % 57)) (by omega) (by omega), w64 (n := 2 ^ (k % 57) - 1) (by omega) (by omega), f19_eq (by omega)]
  simp only [c1, decide_false, Bool.not_false, cond_true, hen, List.length_cons, List.length_nil, List.map_cons, List.map_nil, lv_zero, lv_pow, Option.bind_some, Nat.zero_add, Nat.reduceAdd, Nat.reduceLeDiff, and_self, if_true, bne_self_eq_false, cond_false]
  rw [ints_self (by simp), awake11, f19_eq (by omega)]
  simp only [Option.bind_some, Bool.not_true, cond_false, List.length_cons, List.length_nil, Nat.zero_add, Nat.reduceAdd, Nat.reduceLeDiff, true_and, if_true]
  obtain ⟨m, hm⟩ : ∃ m, m = if b < a then b else a := ⟨_, rfl⟩
  obtain ⟨M, hM⟩ : ∃ M, M = if b > a then b else a := ⟨_, rfl⟩
  have hmM : m ≤ M := by
    rw [hm, hM]; split <;> split <;> omega
  rw [← hm, ← hM]
  by_cases h : [m, M].all enOk = true
  · obtain ⟨⟨h1, h2⟩, h3, h4⟩ := en_all.1 h
    have h5 := (f48_log (N := 100) (Nat.le_refl _) h1 (by omega)).2.2.1
    have h6 := lv_le h1 hmM (by omega)
    simp [h, h5, h6]
  · simp [h]
/-! ### Tones -/
theorem tn_range (p : List Int) : 0 ≤ tn p ∧ tn p ≤ 255 := by
  unfold tn
  repeat' split
  all_goals omega
theorem same_sum {f : Int → Int} {y : Int} : ∀ (l : List Int), (∀ x ∈ l, f x = y) → (l.map f).sum = y * l.length
  | [], _ => by simp
  | x :: r, h => by
    simp only [List.map_cons, List.sum_cons, List.length_cons]
    rw [same_sum r fun z hz => h z (by simp [hz]), h x (by simp), Int.natCast_add, Int.mul_add]
    simp; omega
theorem tn_same {p : List Int} {v : Int} (h1 : 1 ≤ p.length) (h : ∀ x ∈ p, x * x = v * v) : tn p = 0 := by
  have e1 : sq p = v * v * p.length := same_sum p h
  have e2 : lsum p = lv (v * v) * p.length := same_sum p fun x hx => by rw [h x hx]
  have e3 : tdif p = 0 := by
    unfold tdif
    rw [e1, e2, Int.mul_tdiv_cancel _ (by omega), Int.mul_tdiv_cancel _ (by omega)]; omega
  unfold tn
  rw [e3]; rfl
theorem f9l0_eq (N : Nat) {t0 : List Bool} (h0 : 0 < t0.length) {v : Int} (hv0 : 0 ≤ v) (hv1 : v ≤ 2097152) : ∀ (k m i : Nat) (u : List Int), i + k = 128 → u.length = 128 → (∀ j, j < i → u.getD j 0 = v ∨ u.getD j 0 = -v) →
    ∃ r : List Int, f9l0 N (m + k + 1) u t0 v 128 i = some ((r, ()), ((), ())) ∧ r.length = 128 ∧ ∀ j, j < 128 → r.getD j 0 = v ∨ r.getD j 0 = -v := by
  intro k
  induction k with
  | zero =>
    intro m i u h hu hp
    obtain rfl : i = 128 := by omega
    exact ⟨u, by simp [f9l0], hu, hp⟩
  | succ k ih =>
    intro m i u h hu hp
    have ih' := fun u => ih m (i + 1) u (by omega)
    rw [show m + (k + 1) + 1 = (m + k + 1) + 1 by omega]
    generalize m + k + 1 = M at ih' ⊢
    have c1 : (i : Int) < 128 := by omega
    have c2 : (i : Int) < (u.length : Int) := by omega
    have c3 : (!((t0.length : Int) == 0)) = true := by
      have : (t0.length : Int) ≠ 0 := by omega
      simpa using this
    have e1 : Int.tmod (i : Int) (t0.length : Int) = ((i % t0.length : Nat) : Int) := rfl
    have hmod := Nat.mod_lt i h0
    have c4 : ((i % t0.length : Nat) : Int) < (t0.length : Int) := by omega
    have c5 : (i : Int) < ((u.set i v).length : Int) := by simp; omega
    have hset : ∀ (u : List Int) (y : Int), u.length = 128 → (∀ j, j < i → u.getD j 0 = v ∨ u.getD j 0 = -v) → (y = v ∨ y = -v) → ∀ j, j < i + 1 → (u.set i y).getD j 0 = v ∨ (u.set i y).getD j 0 = -v := by
      intro u y hu hp hy j hj
      by_cases hji : j = i
      · subst hji
        have : (u.set j y).getD j 0 = y := by simp [List.getD, List.getElem?_set, show j < u.length by omega]
        rw [this]; exact hy
      · have : (u.set i y).getD j 0 = u.getD j 0 := by simp [List.getD, List.getElem?_set, Ne.symm hji]
        rw [this]; exact hp j (by omega)
    have hp' : ∀ j, j < i → (u.set i v).getD j 0 = v ∨ (u.set i v).getD j 0 = -v := fun j hj => hset u v hu hp (.inl rfl) j (by omega)
    simp only [f9l0, c1, c2, c3, c4, c5, e1, decide_true, cond_true, show (0 : Int) ≤ i by omega, show (0 : Int) ≤ ((i % t0.length : Nat) : Int) by omega, Bool.and_self, Int.toNat_natCast]
    rw [w64s i (by omega), w64 (n := 0 - v) (by omega) (by omega), show (0 : Int) - v = -v by omega]
    cases t0.getD (i % t0.length) false with
    | true =>
      simp only [cond_true, bindS]
      exact ih' _ (by simp [hu]) (hset _ _ (by simp [hu]) hp' (.inr rfl))
    | false =>
      simp only [cond_false, bindS]
      exact ih' _ (by simp [hu]) (hset _ _ hu hp (.inl rfl))
theorem f9l2_eq {N : Nat} {l : List Int} (hl : l.length ≤ 1000) (hN : 1000 < N) (h : ∀ x ∈ l, x = 0) : f9l2 N N l l.length 0 = some (.inl ((), ())) := by
  have h := range_fold (l := l) 0 (f := fun n (_ : Unit) i => f9l2 N n l l.length i) (step := fun _ _ => ()) (fun _ _ => True) (fin := fun _ => some (.inl ((), ()))) (fun n i s hi _ => by
    have c1 : (i : Int) < (l.length : Int) := by omega
    refine ⟨?_, trivial⟩
    simp only [f9l2, c1, decide_true, cond_true, show (0 : Int) ≤ i by omega, Bool.and_self, Int.toNat_natCast, h _ (getD_mem hi), bne_self_eq_false, cond_false]
    rw [w64s i (by omega), bindS]) (fun n s _ => by simp [f9l2]) N () (by omega) trivial
  exact h
theorem f9l4_eq {N : Nat} {l : List Int} (hl : l.length ≤ 1000) (hN : 1000 < N) (h : ∀ x ∈ l, 0 ≤ x ∧ x ≤ 255) : f9l4 N N l l.length 0 = some (.inl ((), ())) := by
  have h := range_fold (l := l) 0 (f := fun n (_ : Unit) i => f9l4 N n l l.length i) (step := fun _ _ => ()) (fun _ _ => True) (fin := fun _ => some (.inl ((), ()))) (fun n i s hi _ => by
    have c1 : (i : Int) < (l.length : Int) := by omega
    have hx := h _ (getD_mem (d := 0) hi)
    have c2 : ¬ l.getD i 0 < 0 := by omega
    have c3 : ¬ 255 < l.getD i 0 := by omega
    refine ⟨?_, trivial⟩
    simp only [f9l4, c1, c2, c3, decide_true, decide_false, cond_true, cond_false, show (0 : Int) ≤ i by omega, Bool.and_self, Int.toNat_natCast]
    rw [w64s i (by omega), bindS]) (fun n s _ => by simp [f9l4]) N () (by omega) trivial
  exact h
theorem gath_of_mem {c : List Int} {s : Bool} {g : List Int} (h : Good c s g) : ∀ (w l : List Int), (∀ x ∈ l, x ∈ c) → ∀ p ∈ cutW l w, ∀ x ∈ p, x ∈ c
  | [], _, _, p, hp => by cases hp
  | w :: r, l, hl, p, hp => by
    rcases List.mem_cons.1 hp with rfl | hp
    · exact fun x hx => hl x (List.mem_of_mem_take hx)
    · exact gath_of_mem h r _ (fun x hx => hl x (List.mem_of_mem_drop hx)) p hp
theorem tones_part {c : List Int} {v : Int} (hc : c.length = 128) (hv0 : 0 ≤ v) (hv1 : v ≤ 2097152) (hcv : ∀ j, j < 128 → c.getD j 0 = v ∨ c.getD j 0 = -v) {s : Bool} {g : List Int} (hd : isDiv s g = true) :
    f16F 200000 c s g = some (((bnds c s g).map tn, ()), ((), (0, ()))) ∧ (∀ x ∈ (bnds c s g).map tn, x = 0) ∧
    f16F 200000 (c.set 5 (Int.tdiv (0 - c.getD 5 0) 2)) s g = some (((bnds (c.set 5 (Int.tdiv (0 - c.getD 5 0) 2)) s g).map tn, ()), ((), (0, ()))) ∧ (∀ x ∈ (bnds (c.set 5 (Int.tdiv (0 - c.getD 5 0) 2)) s g).map tn, 0 ≤ x ∧ x ≤ 255) ∧
    (bnds c s g).length = (widths s g).length ∧ (bnds (c.set 5 (Int.tdiv (0 - c.getD 5 0) 2)) s g).length = (widths s g).length ∧ 0 < (widths s g).length ∧ (widths s g).length ≤ 32 := by
  have hm : ∀ x ∈ c, x = v ∨ x = -v := fun x hx => by
    obtain ⟨q, hq, rfl⟩ := List.mem_iff_getElem.1 hx
    have := hcv q (by omega)
    simpa [List.getD, List.getElem?_eq_getElem hq] using this
  have hin : InR c := fun x hx => by have := hm x hx; omega
  have h5 := hcv 5 (by omega)
  have hin2 : InR (c.set 5 (Int.tdiv (0 - c.getD 5 0) 2)) := fun x hx => by
    rcases List.mem_or_eq_of_mem_set hx with hx | rfl
    · exact hin x hx
    · have := p03.tdiv_bound (a := 0 - c.getD 5 0) (b := 2) (B := 2097152) (by omega) (by omega) (by omega)
      exact this
  have s1 := sp_of hd hc hin
  have s2 := sp_of hd (show (c.set 5 (Int.tdiv (0 - c.getD 5 0) 2)).length = 128 by simp [hc]) hin2
  have hh := Good.of s1
  obtain ⟨w1, w2⟩ := p10.widths_len hd
  refine ⟨by rw [f16_eq (by omega), s1]; rfl, fun x hx => ?_, by rw [f16_eq (by omega), s2]; rfl, fun x hx => ?_, bnds_len _ _ _, bnds_len _ _ _, ?_, w1⟩
  · obtain ⟨p, hp, rfl⟩ := List.mem_map.1 hx
    refine tn_same (v := v) (hh.bands p hp).2.1 fun x hx => ?_
    have := hm x (gath_of_mem hh _ _ (fun x hx => (gath_mem hd hc).1 hx) p hp x hx)
    rcases this with rfl | rfl
    · rfl
    · rw [Int.neg_mul_neg]
  · obtain ⟨p, _, rfl⟩ := List.mem_map.1 hx
    exact tn_range p
  · exact List.length_pos_iff.2 fun h => by
      have : (widths s g).isEmpty = true := by rw [h]; rfl
      rw [show (widths s g).isEmpty = false from w2] at this
      cases this
theorem energyTones (t0 : List Bool) (v : Int) (g : List Int) : f9F 200000 t0 v g = some ((), (true, ())) := by
  unfold f9F
  rw [awake11]
  by_cases c1 : v < 0
  · simp [c1]
  · by_cases c2 : 2097152 < v
    · simp [c1, c2]
    · rw [f10_eq]
      cases hb : decide (([] : List Int).length ≤ 300) && decide (g.length ≤ 100) with
      | false => simp [c1, c2]
      | true =>
        simp only [c1, c2, decide_false, cond_false, Option.bind_some, Bool.not_true]
        by_cases h0 : t0.length = 0
        · have : ((t0.length : Int) == 0) = true := by rw [h0]; rfl
          simp only [this, cond_true]
        · have c3 : ((t0.length : Int) == 0) = false := by
            have : (t0.length : Int) ≠ 0 := by omega
            simpa using this
          simp only [c3, cond_false, List.length_replicate]
          obtain ⟨c, hl, hc, hcv⟩ := f9l0_eq 200000 (t0 := t0) (by omega) (show 0 ≤ v by omega) (by omega) 128 199871 0 (List.replicate 128 0) rfl (List.length_replicate ..) (fun j hj => by omega)
          rw [show ((0 : Nat) : Int) = 0 from rfl, show 199871 + 128 + 1 = 200000 from rfl] at hl
          rw [show ((128 : Nat) : Int) = 128 from rfl, hl, p10.f23_eq (by omega)]
          have hin5 : -2097152 ≤ c.getD 5 0 ∧ c.getD 5 0 ≤ 2097152 := by have := hcv 5 (by omega); omega
          have hq := p03.tdiv_bound (a := 0 - c.getD 5 0) (b := 2) (B := 2097152) (by omega) (by omega) (by omega)
          have c5 : (5 : Int) < (c.length : Int) := by omega
          rw [Option.bind_some]
          simp only [Option.bind_some, c5, decide_true, Bool.and_self, cond_true]
          rw [w64 (n := 0 - c.getD 5 0) (by omega) (by omega), w64 (n := Int.tdiv (0 - c.getD 5 0) 2) (by omega) (by omega)]
          cases hd : p10.isDiv true g with
          | false =>
            obtain ⟨a1, a2, a3, a4, a5, a6, a7, a8⟩ := tones_part hc (by omega) (by omega) hcv dfalse
            have l1 : ((bnds c false []).map tn).length = (widths false []).length := by rw [List.length_map, a5]
            have l2 : ((bnds (c.set 5 (Int.tdiv (0 - c.getD 5 0) 2)) false []).map tn).length = (widths false []).length := by rw [List.length_map, a6]
            simp only [Bool.not_false, cond_true]
            rw [a1, Option.bind_some, f9l2_eq (by omega) (by omega) a2, Option.bind_some, a3]
            simp only [Sum.elim_inl, Option.bind_some]
            rw [f9l4_eq (by omega) (by omega) a4]
            have l3 : (0 : Int) < (((bnds c false []).map tn).length : Int) := by omega
            simp only [Sum.elim_inl, Option.bind_some, beq_self_eq_true, cond_true, l3, decide_true]
            rw [l1, l2]
            simp
          | true =>
            obtain ⟨a1, a2, a3, a4, a5, a6, a7, a8⟩ := tones_part hc (by omega) (by omega) hcv (s := true) (g := g) hd
            have l1 : ((bnds c true g).map tn).length = (widths true g).length := by rw [List.length_map, a5]
            have l2 : ((bnds (c.set 5 (Int.tdiv (0 - c.getD 5 0) 2)) true g).map tn).length = (widths true g).length := by rw [List.length_map, a6]
            simp only [Bool.not_true, cond_false]
            rw [a1, Option.bind_some, f9l2_eq (by omega) (by omega) a2, Option.bind_some, a3]
            simp only [Sum.elim_inl, Option.bind_some]
            rw [f9l4_eq (by omega) (by omega) a4]
            have l3 : (0 : Int) < (((bnds c true g).map tn).length : Int) := by omega
            simp only [Sum.elim_inl, Option.bind_some, beq_self_eq_true, cond_true, l3, decide_true]
            rw [l1, l2]
            simp
end Go.Sh.c11
