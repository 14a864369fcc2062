/- Chapter 8: five of the laws. -/
import Derived.Test.YtcogmfjlbdhkbaaPlainD
set_option linter.unusedVariables false
set_option linter.unusedSimpArgs false
namespace Go.Sh.c08
open p06 (Bd inR inR_iff isQ isQ_iff ofN)
open p07 (tab tab_len tab_getD tab_ext tab_succ eq_tab tw bk gS fwd inv lv planOf itS)

theorem blk_x (f : Nat → List Int → List Int) (hf : ∀ l x, (f l x).length = 2 ^ (l + 1)) {l x y : List Int} (h : erS x l = 0) : (blk f (nl l) y).length = x.length := by
  obtain ⟨k1, k2, k3⟩ := erS_zero h
  have := nl_sum k1
  rw [blk_len f hf _ _ (nl_all k1)]
  omega
theorem resFwd_len {N : Nat} {x l : List Int} (hx : x.length ≤ 1200) : (resFwd N x l).1.1.length ≤ 1200 := by
  unfold resFwd
  show (if er8 65536 x l = 0 then _ else _ : List Int).length ≤ 1200
  split
  · rename_i h
    rw [blk_x (fwd N) (p07.fwd_len N) (er8_zero h).1]; exact hx
  · simp
theorem resInv_len {N : Nat} {x l : List Int} (hx : x.length ≤ 1200) : (resInv N x l).1.1.length ≤ 1200 := by
  unfold resInv invL
  show (if er8 2097152 x l = 0 then _ else _ : List Int).length ≤ 1200
  split
  · rename_i h
    rw [flds_len, blk_x (inv N) (p07.inv_len N) (er8_zero h).1]; exact hx
  · simp
theorem resFold_len {N : Nat} {bw : Bool} {B : Int} {x l : List Int} (hx : x.length ≤ 1200) : (resFold N bw B x l).1.1.length ≤ 1200 := by
  unfold resFold
  show (if er8 B x l = 0 then _ else _ : List Int).length ≤ 1200
  split
  · rw [flds_len]; exact hx
  · simp
theorem lapForward (x l : List Int) : f3F 200000 x l = some ((), (true, ())) := by
  unfold f3F
  rw [f12_eq (by omega), awake (by omega)]
  cases hg : gr x l
  · obtain ⟨g1, g2, g3⟩ := gr_no hg
    rw [f14_eq (by omega) g1 g2, f15_eq (by omega) g1 g2]
    simp only [Option.bind_some, cond_false]
    rw [ints (by omega) rfl (Nat.le_trans (resFwd_len g1) (by omega))]
    simp
  · simp
theorem lapInverse (x l : List Int) : f4F 200000 x l = some ((), (true, ())) := by
  unfold f4F
  rw [f12_eq (by omega), awake (by omega)]
  cases hg : gr x l
  · obtain ⟨g1, g2, g3⟩ := gr_no hg
    rw [f17_eq (by omega) g1 g2, f18_eq (by omega) g1 g2]
    simp only [Option.bind_some, cond_false]
    rw [ints (by omega) rfl (Nat.le_trans (resInv_len g1) (by omega))]
    simp
  · simp
theorem lapFolds (x l : List Int) : f5F 200000 x l = some ((), (true, ())) := by
  unfold f5F
  rw [f12_eq (by omega), awake (by omega)]
  cases hg : gr x l
  · obtain ⟨g1, g2, g3⟩ := gr_no hg
    rw [f19_eq (by omega) g1 g2, f20_eq (by omega) g1 g2, f21_eq (by omega) g1 g2, f22_eq (by omega) g1 g2]
    simp only [Option.bind_some, cond_false]
    rw [ints (by omega) rfl (Nat.le_trans (resFold_len g1) (by omega)), ints (by omega) rfl (Nat.le_trans (resFold_len g1) (by omega))]
    simp
  · simp
theorem lapUndone (x l : List Int) : f8F 200000 x l = some ((), (true, ())) := by
  unfold f8F
  rw [f12_eq (by omega), awake (by omega)]
  cases hg : gr x l
  · obtain ⟨g1, g2, g3⟩ := gr_no hg
    rw [f14_eq (by omega) g1 g2, f19_eq (by omega) g1 g2]
    simp only [Option.bind_some, cond_false]
    by_cases he : er8 65536 x l = 0
    · obtain ⟨u1, u2⟩ := fwd_undone (N := 200000) (by omega) he
      obtain ⟨v1, v2⟩ := fold_undone (N := 200000) (by omega) he
      have a1 := resFwd_len (N := 200000) (l := l) g1
      have a2 := resFold_len (N := 200000) (bw := false) (B := 65536) (l := l) g1
      unfold resFwd at a1 ⊢
      unfold resFold at a2 ⊢
      simp only [he, if_true] at a1 a2 ⊢
      rw [f17_eq (by omega) a1 g2, f21_eq (by omega) a2 g2]
      unfold resInv resFold
      simp only [u1, u2, v1, v2, if_true, Option.bind_some]
      rw [ints (by omega) rfl (Nat.le_trans g1 (by omega))]
      simp
    · unfold resFwd resFold
      simp only [show (er8 65536 x l != 0) = true by simp [he], beq_self_eq_true, cond_true, Option.bind_some]
  · simp
end Go.Sh.c08

namespace Go.Sh.c08
open p06 (Bd inR inR_iff isQ isQ_iff ofN)
open p07 (tab tab_len tab_getD tab_ext tab_succ eq_tab tw bk gS fwd inv lv planOf itS)

def badR (l : List Int) (f t : Int) : Prop := f < 0 ∨ t < f ∨ (l.length : Int) < t
theorem f23_lay {N : Nat} (hN : 200000 ≤ N) {c l : List Int} (hl : l.length ≤ 600) (f t : Int) (h : lay l = false) : f23F N c l f t = some (([], ()), ((), (1, ()))) := by
  unfold f23F
  rw [f43_eq (by omega) (by omega), h]; rfl
theorem f23_len {N : Nat} (hN : 200000 ≤ N) {c l : List Int} (hl : l.length ≤ 600) (f t : Int) (h : lay l = true) (h2 : (c.length : Int) ≠ l.sum) : f23F N c l f t = some (([], ()), ((), (4, ()))) := by
  unfold f23F
  rw [f43_eq (by omega) (by omega), h]
  simp only [Option.bind_some, Bool.not_true, cond_false]
  rw [f44_eq (lay_all h).1 (by omega) (by omega)]
  have e : (((List.length c : Nat) : Int) != l.sum) = true := by simpa using h2
  simp only [Option.bind_some, e, cond_true]
theorem f23_bad {N : Nat} (hN : 200000 ≤ N) {c l : List Int} (hl : l.length ≤ 600) {f t : Int} (h : lay l = true) (h2 : (c.length : Int) = l.sum) (h3 : badR l f t) : f23F N c l f t = some (([], ()), ((), (5, ()))) := by
  unfold f23F
  rw [f43_eq (by omega) (by omega), h]
  simp only [Option.bind_some, Bool.not_true, cond_false]
  rw [f44_eq (lay_all h).1 (by omega) (by omega)]
  have e : (((List.length c : Nat) : Int) != l.sum) = false := by simpa using h2
  simp only [Option.bind_some, e, cond_false]
  unfold badR at h3
  by_cases a1 : f < 0
  · simp only [a1, decide_true, cond_true]
  by_cases a2 : t < f
  · simp only [a1, a2, decide_true, decide_false, cond_true, cond_false]
  have a3 : (l.length : Int) < t := by omega
  simp only [a1, a2, a3, decide_true, decide_false, cond_true, cond_false]
theorem f23_all {N : Nat} (hN : 200000 ≤ N) {c l : List Int} (hx : c.length ≤ 1200) (hl : l.length ≤ 600) : ∃ r e, f23F N c l 0 (l.length : Int) = some ((r, ()), ((), (e, ()))) ∧ r.length ≤ 1200 := by
  cases h : lay l
  · exact ⟨_, _, f23_lay hN hl _ _ h, by simp⟩
  by_cases h2 : (c.length : Int) = l.sum
  · have h0 := f23_ok hN hx hl h h2 (f := 0) (t := l.length) (by omega) (by omega)
    rw [show ((0 : Nat) : Int) = 0 from rfl] at h0
    rw [h0]
    obtain ⟨hA, _⟩ := lay_all h
    have hn := nl_sum hA
    split
    · refine ⟨_, _, rfl, ?_⟩
      have e0 : sm l (lo 0) 0 = 0 := by unfold sm sub lo; simp [nl]
      rw [e0]
      have hb := blk_len (inv N) (p07.inv_len N) (nl (sub l (lo 0) (hi l.length l.length))) ((c.take (sm l 0 (lo 0) + sm l (lo 0) (hi l.length l.length))).drop (sm l 0 (lo 0))) (nl_all (sub_all hA _ _))
      have hs : sub l (lo 0) (hi l.length l.length) = l := by unfold sub lo hi; simp
      unfold cutAt invL
      rw [List.length_take]; (try rw [List.length_drop]); rw [flds_len, hb, hs]
      omega
    · exact ⟨_, _, rfl, by simp⟩
  · exact ⟨_, _, f23_len hN hl _ _ h h2, by simp⟩
theorem set_loop (N : Nat) : ∀ (m n i : Nat) (v : List Int), i + m = v.length → m < n → v.length ≤ 1000000 → f11l2 N n v (v.length : Int) (i : Int) = some ((), ())
  | m, 0, i, v, _, h, _ => by omega
  | 0, n + 1, i, v, h, _, _ => by
    unfold f11l2
    have : ¬ ((i : Int) < (v.length : Int)) := by omega
    simp only [this, decide_false, cond_false]
  | m + 1, n + 1, i, v, h, hn, hv => by
    unfold f11l2
    have h1 : (i : Int) < (v.length : Int) := by omega
    have h2 : 0 ≤ (i : Int) := by omega
    have w1 : IntKind.i64.wrap ((i : Int) + 1) = ((i + 1 : Nat) : Int) := by rw [w64 (by omega) (by omega)]; rfl
    have ih := set_loop N m n (i + 1) (List.set v (Int.toNat (i : Int)) 9) (by rw [List.length_set]; omega) (by omega) (by rw [List.length_set]; omega)
    rw [List.length_set] at ih
    simp only [h1, h2, decide_true, cond_true, Bool.and_self, w1, ih, Option.bind_some]
theorem copies (N n : Nat) {a b c d e : List Int} (ha : a.length ≤ 5000) (hb : b.length ≤ 5000) (hc : c.length ≤ 5000) (hd : d.length ≤ 5000) (he : e.length ≤ 5000) :
    f11l0 N (n + 6) [] [a, b, c, d, e] 5 0 = some (([a, b, c, d, e], ()), ((), ())) := by
  have w1 : IntKind.i64.wrap 1 = 1 := by decide
  have w2 : IntKind.i64.wrap 2 = 2 := by decide
  have w3 : IntKind.i64.wrap 3 = 3 := by decide
  have w4 : IntKind.i64.wrap 4 = 4 := by decide
  have w5 : IntKind.i64.wrap 5 = 5 := by decide
  have h1 : (a.length) * 8 ≤ 140737488355328 := by omega
  have h2 : (b.length) * 8 ≤ 140737488355328 := by omega
  have h3 : (c.length) * 8 ≤ 140737488355328 := by omega
  have h4 : (d.length) * 8 ≤ 140737488355328 := by omega
  have h5 : (e.length) * 8 ≤ 140737488355328 := by omega
  simp [f11l0, w1, w2, w3, w4, w5, h1, h2, h3, h4, h5]
theorem same (N n : Nat) {a b c d e : List Int} (ha : f16F N a a = some ((), (true, ()))) (hb : f16F N b b = some ((), (true, ()))) (hc : f16F N c c = some ((), (true, ()))) (hd : f16F N d d = some ((), (true, ()))) (he : f16F N e e = some ((), (true, ()))) :
    f11l4 N (n + 6) [a, b, c, d, e] [a, b, c, d, e] 5 0 = some (.inl ((), ())) := by
  have w1 : IntKind.i64.wrap 1 = 1 := by decide
  have w2 : IntKind.i64.wrap 2 = 2 := by decide
  have w3 : IntKind.i64.wrap 3 = 3 := by decide
  have w4 : IntKind.i64.wrap 4 = 4 := by decide
  have w5 : IntKind.i64.wrap 5 = 5 := by decide
  simp [f11l4, w1, w2, w3, w4, w5, ha, hb, hc, hd, he]
theorem lapMemory (x l : List Int) : f11F 200000 x l = some ((), (true, ())) := by
  unfold f11F
  rw [f12_eq (by omega), awake (by omega)]
  cases hg : gr x l
  · obtain ⟨g1, g2, g3⟩ := gr_no hg
    obtain ⟨r, e, h23, hr⟩ := f23_all (N := 200000) (by omega) g1 g2
    have b1 : (List.length ([] : List Int) + List.length x) * 8 ≤ 140737488355328 := by simp; omega
    have b2 : (List.length ([] : List Int) + List.length l) * 8 ≤ 140737488355328 := by simp; omega
    have ea : ∀ y : List Int, List.append [] y = y := fun _ => rfl
    simp only [ea, b1, b2, decide_true, cond_true, cond_false, Option.bind_some]
    rw [f14_eq (by omega) g1 g2, f17_eq (by omega) g1 g2, f19_eq (by omega) g1 g2, f21_eq (by omega) g1 g2, h23, ints (by omega) (a := x) rfl (by omega), ints (by omega) (a := l) rfl (by omega)]
    simp only [Option.bind_some, Bool.not_true, cond_false]
    have c1 := resFwd_len (N := 200000) (l := l) g1
    have c2 := resInv_len (N := 200000) (l := l) g1
    have c3 := resFold_len (N := 200000) (bw := false) (B := 65536) (l := l) g1
    have c4 := resFold_len (N := 200000) (bw := true) (B := 33554432) (l := l) g1
    generalize (resFwd 200000 x l).1.1 = p1 at *
    generalize (resInv 200000 x l).1.1 = p2 at *
    generalize (resFold 200000 false 65536 x l).1.1 = p3 at *
    generalize (resFold 200000 true 33554432 x l).1.1 = p4 at *
    have k1 : f11l0 200000 200000 [] [p1, p2, p3, p4, r] 5 0 = _ := copies 200000 199994 (by omega) (by omega) (by omega) (by omega) (by omega)
    have k2 : f11l4 200000 200000 [p1, p2, p3, p4, r] [p1, p2, p3, p4, r] 5 0 = _ := same 200000 199994 (ints (by omega) rfl (by omega)) (ints (by omega) rfl (by omega)) (ints (by omega) rfl (by omega)) (ints (by omega) rfl (by omega)) (ints (by omega) rfl (by omega))
    have k3 := set_loop 200000 x.length 200000 0 x (by omega) (by omega) (by omega)
    rw [show ((0 : Nat) : Int) = 0 from rfl] at k3
    have e5 : ((List.length [p1, p2, p3, p4, r] : Nat) : Int) = 5 := rfl
    rw [e5, k1, k3]
    simp only [Option.bind_some]
    rw [k2]
    rfl
  · simp
end Go.Sh.c08
