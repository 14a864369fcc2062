/- Chapter 8: five of the laws. -/
import Derived.Test.YtcogmfjlbdhkbaaPlainD
set_option linter.unusedVariables false
set_option linter.unusedSimpArgs false
namespace Go.Sh.c08
open p06 (Bd inR inR_iff isQ isQ_iff ofN)
open p07 (tab tab_len tab_getD tab_ext tab_succ eq_tab tw bk gS fwd inv lv planOf itS)

theorem blk_x (f : Nat → List Int → List Int) (hf : ∀ l x, (f l x).length = 2 ^ (l + 1)) {l x y : List Int} (h : erS x l = 0) : (blk f (nl l) y).length = x.length := by
  obtain ⟨k1, k2, k3⟩ := erS_zero h
  have := nl_sum k1
  rw [blk_len f hf _ _ (nl_all k1)]
  omega
theorem resFwd_len {N : Nat} {x l : List Int} (hx : x.length ≤ 1200) : (resFwd N x l).1.1.length ≤ 1200 := by
  unfold resFwd
  show (if er8 65536 x l = 0 then _ else _ : List Int).length ≤ 1200
  split
  · rename_i h
    rw [blk_x (fwd N) (p07.fwd_len N) (er8_zero h).1]; exact hx
  · simp
theorem resInv_len {N : Nat} {x l : List Int} (hx : x.length ≤ 1200) : (resInv N x l).1.1.length ≤ 1200 := by
  unfold resInv invL
  show (if er8 2097152 x l = 0 then _ else _ : List Int).length ≤ 1200
  split
  · rename_i h
    rw [flds_len, blk_x (inv N) (p07.inv_len N) (er8_zero h).1]; exact hx
  · simp
theorem resFold_len {N : Nat} {bw : Bool} {B : Int} {x l : List Int} (hx : x.length ≤ 1200) : (resFold N bw B x l).1.1.length ≤ 1200 := by
  unfold resFold
  show (if er8 B x l = 0 then _ else _ : List Int).length ≤ 1200
  split
  · rw [flds_len]; exact hx
  · simp
theorem lapForward (x l : List Int) : f3F 200000 x l = some ((), (true, ())) := by
  unfold f3F
  rw [f12_eq (by omega), awake (by omega)]
  cases hg : gr x l
  · obtain ⟨g1, g2, g3⟩ := gr_no hg
    rw [f14_eq (by omega) g1 g2, f15_eq (by omega) g1 g2]
    simp only [Option.bind_some, cond_false]
    rw [ints (by omega) rfl (Nat.le_trans (resFwd_len g1) (by omega))]
    simp
  · simp
theorem lapInverse (x l : List Int) : f4F 200000 x l = some ((), (true, ())) := by
  unfold f4F
  rw [f12_eq (by omega), awake (by omega)]
  cases hg : gr x l
  · obtain ⟨g1, g2, g3⟩ := gr_no hg
    rw [f17_eq (by omega) g1 g2, f18_eq (by omega) g1 g2]
    simp only [Option.bind_some, cond_false]
    rw [ints (by omega) rfl (Nat.le_trans (resInv_len g1) (by omega))]
    simp
  · simp
theorem lapFolds (x l : List Int) : f5F 200000 x l = some ((), (true, ())) := by
  unfold f5F
  rw [f12_eq (by omega), awake (by omega)]
  cases hg : gr x l
  · obtain ⟨g1, g2, g3⟩ := gr_no hg
    rw [f19_eq (by omega) g1 g2, f20_eq (by omega) g1 g2, f21_eq (by omega) g1 g2, f22_eq (by omega) g1 g2]
    simp only [Option.bind_some, cond_false]
    rw [ints (by omega) rfl (Nat.le_trans (resFold_len g1) (by omega)), ints (by omega) rfl (Nat.le_trans (resFold_len g1) (by omega))]
    simp
  · simp
theorem lapUndone (x l : List Int) : f8F 200000 x l = some ((), (true, ())) := by
  unfold f8F
  rw [f12_eq (by omega), awake (by omega)]
  cases hg : gr x l
  · obtain ⟨g1, g2, g3⟩ := gr_no hg
    rw [f14_eq (by omega) g1 g2, f19_eq (by omega) g1 g2]
    simp only [Option.bind_some, cond_false]
    by_cases he : er8 65536 x l = 0
    · obtain ⟨u1, u2⟩ := fwd_undone (N := 200000) (by omega) he
      obtain ⟨v1, v2⟩ := fold_undone (N := 200000) (by omega) he
      have a1 := resFwd_len (N := 200000) (l := l) g1
      have a2 := resFold_len (N := 200000) (bw := false) (B := 65536) (l := l) g1
      unfold resFwd at a1 ⊢
      unfold resFold at a2 ⊢
      simp only [he, if_true] at a1 a2 ⊢
      rw [f17_eq (by omega) a1 g2, f21_eq (by omega) a2 g2]
      unfold resInv resFold
      simp only [u1, u2, v1, v2, if_true, Option.bind_some]
      rw [ints (by omega) rfl (Nat.le_trans g1 (by omega))]
      simp
    · unfold resFwd resFold
      simp only [show (er8 65536 x l != 0) = true by simp [he], beq_self_eq_true, cond_true, Option.bind_some]
  · simp
end Go.Sh.c08

namespace Go.Sh.c08
open p06 (Bd inR inR_iff isQ isQ_iff ofN)
open p07 (tab tab_len tab_getD tab_ext tab_succ eq_tab tw bk gS fwd inv lv planOf itS)

theorem own_some {N : Nat} (hN : 10000 ≤ N) {l : List Int} (hl : l.length ≤ 600) (k : Int) : ∃ a b e, f26F N l k = some ((), (a, (b, (e, ())))) := by
  unfold f26F
  rw [f27_eq (by omega) (by omega)]
  simp only [Option.bind_some]
  cases h1 : lay l
  · exact ⟨_, _, _, rfl⟩
  have hA := (lay_all h1).1
  have ht : (l.take k.toNat).length ≤ 600 := by rw [List.length_take]; omega
  rw [f28_eq (hA.take k.toNat) (by omega) (by omega)]
  by_cases h2 : k < 0
  · simp only [h2, decide_true, cond_true, Bool.not_true, cond_false]; exact ⟨_, _, _, rfl⟩
  by_cases h3 : (l.length : Int) ≤ k
  · simp only [h2, h3, decide_true, decide_false, cond_true, Bool.not_true, cond_false]; exact ⟨_, _, _, rfl⟩
  have w1 : IntKind.i64.wrap (k - 1) = k - 1 := w64 (by omega) (by omega)
  have w2 : IntKind.i64.wrap (k + 1) = k + 1 := w64 (by omega) (by omega)
  have e0 : (0 ≤ k) = True := by simp; omega
  have e1 : (k ≤ (l.length : Int)) = True := by simp; omega
  have e2 : (k < (l.length : Int)) = True := by simp; omega
  have e3 : (k - 1 < (l.length : Int)) = True := by simp; omega
  have e4 : (0 ≤ k + 1) = True := by simp; omega
  by_cases h4 : 0 < k <;> by_cases h5 : k + 1 < (l.length : Int)
  · have e5 : (0 ≤ k - 1) = True := by simp; omega
    simp only [w1, w2, h2, h3, h4, h5, e0, e1, e2, e3, e4, e5, decide_true, decide_false, cond_true, Bool.not_true, cond_false, Bool.and_self, Option.bind_some]; exact ⟨_, _, _, rfl⟩
  · have e5 : (0 ≤ k - 1) = True := by simp; omega
    simp only [w1, w2, h2, h3, h4, h5, e0, e1, e2, e3, e4, e5, decide_true, decide_false, cond_true, Bool.not_true, cond_false, Bool.and_self, Option.bind_some]; exact ⟨_, _, _, rfl⟩
  · simp only [w1, w2, h2, h3, h4, h5, e0, e1, e2, e3, e4, decide_true, decide_false, cond_true, Bool.not_true, cond_false, Bool.and_self, Option.bind_some]; exact ⟨_, _, _, rfl⟩
  · simp only [w1, w2, h2, h3, h4, h5, e0, e1, e2, e3, e4, decide_true, decide_false, cond_true, Bool.not_true, cond_false, Bool.and_self, Option.bind_some]; exact ⟨_, _, _, rfl⟩
theorem lapOwn (l : List Int) (k : Int) : f7F 200000 l k = some ((), (true, ())) := by
  unfold f7F
  rw [awake (by omega)]
  by_cases hl : 600 < (l.length : Int)
  · simp [hl]
  · rw [own_eq (by omega) (by omega)]
    obtain ⟨a, b, e, h⟩ := own_some (N := 200000) (by omega) (l := l) (by omega) k
    rw [h]
    simp [hl]
end Go.Sh.c08
