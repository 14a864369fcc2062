/- Chapter 8: five of the laws. -/
import Derived.Test.YtcogmfjlbdhkbaaPlainD
set_option linter.unusedVariables false
set_option linter.unusedSimpArgs false
namespace Go.Sh.c08
open p06 (Bd inR inR_iff isQ isQ_iff ofN)
open p07 (tab tab_len tab_getD tab_ext tab_succ eq_tab tw bk gS fwd inv lv planOf itS)

theorem blk_x (f : Nat → List Int → List Int) (hf : ∀ l x, (f l x).length = 2 ^ (l + 1)) {l x y : List Int} (h : erS x l = 0) : (blk f (nl l) y).length = x.length := by
  obtain ⟨k1, k2, k3⟩ := erS_zero h
  have := nl_sum k1
  rw [blk_len f hf _ _ (nl_all k1)]
  omega
theorem resFwd_len {N : Nat} {x l : List Int} (hx : x.length ≤ 1200) : (resFwd N x l).1.1.length ≤ 1200 := by
  unfold resFwd
  show (if er8 65536 x l = 0 then _ else _ : List Int).length ≤ 1200
  split
  · rename_i h
    rw [blk_x (fwd N) (p07.fwd_len N) (er8_zero h).1]; exact hx
  · simp
theorem resInv_len {N : Nat} {x l : List Int} (hx : x.length ≤ 1200) : (resInv N x l).1.1.length ≤ 1200 := by
  unfold resInv invL
  show (if er8 2097152 x l = 0 then _ else _ : List Int).length ≤ 1200
  split
  · rename_i h
    rw [flds_len, blk_x (inv N) (p07.inv_len N) (er8_zero h).1]; exact hx
  · simp
theorem resFold_len {N : Nat} {bw : Bool} {B : Int} {x l : List Int} (hx : x.length ≤ 1200) : (resFold N bw B x l).1.1.length ≤ 1200 := by
  unfold resFold
  show (if er8 B x l = 0 then _ else _ : List Int).length ≤ 1200
  split
  · rw [flds_len]; exact hx
  · simp
theorem lapForward (x l : List Int) : f3F 200000 x l = some ((), (true, ())) := by
  unfold f3F
  rw [f12_eq (by omega), awake (by omega)]
  cases hg : gr x l
  · obtain ⟨g1, g2, g3⟩ := gr_no hg
    rw [f14_eq (by omega) g1 g2, f15_eq (by omega) g1 g2]
    simp only [Option.bind_some, cond_false]
    rw [ints (by omega) rfl (Nat.le_trans (resFwd_len g1) (by omega))]
    simp
  · simp
theorem lapInverse (x l : List Int) : f4F 200000 x l = some ((), (true, ())) := by
  unfold f4F
  rw [f12_eq (by omega), awake (by omega)]
  cases hg : gr x l
  · obtain ⟨g1, g2, g3⟩ := gr_no hg
    rw [f17_eq (by omega) g1 g2, f18_eq (by omega) g1 g2]
    simp only [Option.bind_some, cond_false]
    rw [ints (by omega) rfl (Nat.le_trans (resInv_len g1) (by omega))]
    simp
  · simp
theorem lapFolds (x l : List Int) : f5F 200000 x l = some ((), (true, ())) := by
  unfold f5F
  rw [f12_eq (by omega), awake (by omega)]
  cases hg : gr x l
  · obtain ⟨g1, g2, g3⟩ := gr_no hg
    rw [f19_eq (by omega) g1 g2, f20_eq (by omega) g1 g2, f21_eq (by omega) g1 g2, f22_eq (by omega) g1 g2]
    simp only [Option.bind_some, cond_false]
    rw [ints (by omega) rfl (Nat.le_trans (resFold_len g1) (by omega)), ints (by omega) rfl (Nat.le_trans (resFold_len g1) (by omega))]
    simp
  · simp
theorem lapUndone (x l : List Int) : f8F 200000 x l = some ((), (true, ())) := by
  unfold f8F
  rw [f12_eq (by omega), awake (by omega)]
  cases hg : gr x l
  · obtain ⟨g1, g2, g3⟩ := gr_no hg
    rw [f14_eq (by omega) g1 g2, f19_eq (by omega) g1 g2]
    simp only [Option.bind_some, cond_false]
    by_cases he : er8 65536 x l = 0
    · obtain ⟨u1, u2⟩ := fwd_undone (N := 200000) (by omega) he
      obtain ⟨v1, v2⟩ := fold_undone (N := 200000) (by omega) he
      have a1 := resFwd_len (N := 200000) (l := l) g1
      have a2 := resFold_len (N := 200000) (bw := false) (B := 65536) (l := l) g1
      unfold resFwd at a1 ⊢
      unfold resFold at a2 ⊢
      simp only [he, if_true] at a1 a2 ⊢
      rw [f17_eq (by omega) a1 g2, f21_eq (by omega) a2 g2]
      unfold resInv resFold
      simp only [u1, u2, v1, v2, if_true, Option.bind_some]
      rw [ints (by omega) rfl (Nat.le_trans g1 (by omega))]
      simp
    · unfold resFwd resFold
      simp only [show (er8 65536 x l != 0) = true by simp [he], beq_self_eq_true, cond_true, Option.bind_some]
  · simp
end Go.Sh.c08

namespace Go.Sh.c08
open p06 (Bd inR inR_iff isQ isQ_iff ofN)
open p07 (tab tab_len tab_getD tab_ext tab_succ eq_tab tw bk gS fwd inv lv planOf itS)

def ZZ {α : Type} (z : α) (x : List α) : Prop := ∀ a ∈ x, a = z
theorem ZZ.at {α : Type} {z : α} {x : List α} (h : ZZ z x) (k : Nat) : x.getD k z = z := by
  by_cases e : k < x.length
  · have : x.getD k z = x[k] := by simp [List.getD, e]
    rw [this]; exact h _ (List.getElem_mem e)
  · simp [List.getD, Nat.not_lt.1 e]
theorem ZZ.tab {α : Type} {z : α} {n : Nat} {f : Nat → α} (h : ∀ k, f k = z) : ZZ z (p07.tab n f) := fun a ha => by
  unfold p07.tab at ha
  obtain ⟨k, -, e⟩ := List.mem_map.1 ha
  rw [← e, h]
theorem ZZ.app {α : Type} {z : α} {x y : List α} (h1 : ZZ z x) (h2 : ZZ z y) : ZZ z (x ++ y) := fun a ha => (List.mem_append.1 ha).elim (h1 a) (h2 a)
theorem ZZ.eq {α : Type} {z : α} {x : List α} (h : ZZ z x) {n : Nat} (hn : x.length = n) : x = List.replicate n z := List.eq_replicate_iff.2 ⟨hn, h⟩
theorem ZZ.rep {α : Type} {z : α} (n : Nat) : ZZ z (List.replicate n z) := fun _ ha => (List.mem_replicate.1 ha).2
theorem tw_zero (N : Nat) (n d : Int) : tw N n d 0 0 = (0, 0) := by
  unfold p07.tw p06.fwT
  have h : ∀ q, p03.rot q 0 0 = (0, 0) := fun q => by
    induction q with
    | zero => rfl
    | succ q ih => unfold p03.rot; rw [Int.neg_zero]; exact ih
  rw [h]
  unfold p06.fw3 p06.sc
  simp
theorem bk_zero (N : Nat) (n d : Int) : bk N n d 0 0 = (0, 0) := by
  have := p07.bk_tw N n d 0 0
  rwa [tw_zero] at this
theorem T_zero (bw : Bool) (N : Nat) (n d : Int) : T bw N n d 0 0 = (0, 0) := by
  unfold T; rw [tw_zero, bk_zero]; split <;> rfl
theorem mix_zero (N : Nat) : ∀ (l : Nat) (z : List p07.P2), ZZ p07.pz z → ZZ p07.pz (p07.mix N l z)
  | 0, z, h => h
  | l + 1, z, h => by
    unfold p07.mix
    have i1 := mix_zero N l (p07.tab (2 ^ l) fun k => z.getD (2 * k) p07.pz) (ZZ.tab fun k => h.at _)
    have i2 := mix_zero N l (p07.tab (2 ^ l) fun k => z.getD (2 * k + 1) p07.pz) (ZZ.tab fun k => h.at _)
    have e : ∀ k, p07.mixS N (2 ^ (l + 1)) k p07.pz p07.pz = (p07.pz, p07.pz) := fun k => by
      unfold p07.mixS; simp only [tw_zero]; rfl
    exact ZZ.app (ZZ.tab fun k => by rw [i1.at, i2.at, e]) (ZZ.tab fun k => by rw [i1.at, i2.at, e])
theorem fwd_zero (N l : Nat) {x : List Int} (h : ZZ 0 x) : ZZ 0 (fwd N l x) := by
  unfold p07.fwd
  have h1 : ZZ p07.pz (p07.preF N (2 ^ (l + 1)) x) := ZZ.tab fun k => by rw [h.at, h.at, tw_zero]; rfl
  have h2 := mix_zero N l _ h1
  refine ZZ.tab fun k => ?_
  unfold p07.outF p07.endF
  rw [h2.at, h2.at, tw_zero, tw_zero]
  split <;> rfl
theorem inv_zero (N l : Nat) (n : Nat) (hn : n = 2 ^ (l + 1)) : inv N l (List.replicate n 0) = List.replicate n 0 := by
  have h1 : fwd N l (List.replicate n 0) = List.replicate n 0 := (fwd_zero N l (ZZ.rep n)).eq (by rw [p07.fwd_len, hn])
  have h2 := p07.inv_fwd N l (x := List.replicate n 0) (by simp [hn])
  rwa [h1] at h2
theorem lapV_zero (bw : Bool) (N p l : Nat) {x : List Int} (h : ZZ 0 x) : ZZ 0 (lapV bw N p l x) := ZZ.tab fun k => by
  unfold lapG
  simp only [h.at, T_zero]
  split
  · rfl
  · split <;> rfl
theorem flds_zero (bw : Bool) (N : Nat) : ∀ (l : List Nat) (p : Nat) (x : List Int), ZZ 0 x → ZZ 0 (flds bw N p l x)
  | [], _, _, h => h
  | [_], _, _, h => h
  | a :: b :: r, p, x, h => by unfold flds; exact flds_zero bw N (b :: r) (p + a) _ (lapV_zero bw N _ _ h)
theorem ZZ.take {x : List Int} (h : ZZ 0 x) (k : Nat) : ZZ 0 (x.take k) := fun n hn => h n (List.mem_of_mem_take hn)
theorem ZZ.drop {x : List Int} (h : ZZ 0 x) (k : Nat) : ZZ 0 (x.drop k) := fun n hn => h n (List.mem_of_mem_drop hn)
theorem blk_fwd_zero (N : Nat) : ∀ (l : List Nat) (x : List Int), ZZ 0 x → ZZ 0 (blk (fwd N) l x)
  | [], _, _ => fun a ha => by simp [blk] at ha
  | n :: r, x, h => by unfold blk; exact ZZ.app (fwd_zero N _ (h.take n)) (blk_fwd_zero N r _ (h.drop n))
theorem blk_inv_zero (N : Nat) {l : List Nat} (hA : AllM l) {x : List Int} (h : ZZ 0 x) (hx : x.length = l.sum) : blk (inv N) l x = x := by
  have h1 : blk (fwd N) l x = x := by
    rw [(blk_fwd_zero N l x h).eq (blk_len (fwd N) (p07.fwd_len N) l x hA), ← h.eq hx]
  have h2 := blk_inv (N := N) l x hA hx
  rwa [h1] at h2
theorem inR_zero {B : Int} (hB : 0 ≤ B) {x : List Int} (h : ZZ 0 x) : x.all (inR B) = true := List.all_eq_true.2 fun a ha => by rw [h a ha]; exact inR_iff.2 (by omega)
theorem f14_big {N : Nat} (hN : 200000 ≤ N) {x l : List Int} (hx : x.length ≤ 100000) (hl : l.length ≤ 600) : f14F N x l = some (resFwd N x l) := by
  unfold f14F resFwd
  rw [f30_eq (by decide) (by decide) (by omega) (by omega) (by omega) (by omega)]
  simp only [Option.bind_some]
  by_cases e : er8 65536 x l = 0
  · obtain ⟨h1, h2⟩ := er8_zero e
    obtain ⟨k1, k2, k3⟩ := erS_zero h1
    have hn := nl_sum k1
    have hf := fold_in (N := N) (by omega) false (B := 65536) (C := 1048576) (by decide) (by decide) (by decide) k1 k3 h2
    have hb := f34l0_eq (N := N) (by omega) k1 (by omega) ((), ()) l N 0 [] (flds false N 0 (nl l) x) rfl (by omega) (by omega) (by simp) hf (by rw [flds_len]; omega) (by rw [flds_len]; omega)
    rw [show ((0 : Nat) : Int) = 0 from rfl, List.nil_append] at hb
    simp only [e, bne_self_eq_false, cond_false, if_true]
    rw [f31_eq N (by omega)]
    simp only [Option.bind_some]
    rw [f32v1_eq (by omega) k1 (by omega) k3 (sqR_of (B := 65536) (by decide) (by decide) h2)]
    simp only [Option.bind_some, f34F]
    rw [hb]
    rfl
  · have e' : (er8 65536 x l != 0) = true := by simpa using e
    simp only [e, e', cond_true, if_false]
theorem f17_big {N : Nat} (hN : 200000 ≤ N) {x l : List Int} (hx : x.length ≤ 100000) (hl : l.length ≤ 600) : f17F N x l = some (resInv N x l) := by
  unfold f17F resInv
  rw [f30_eq (by decide) (by decide) (by omega) (by omega) (by omega) (by omega)]
  simp only [Option.bind_some]
  by_cases e : er8 2097152 x l = 0
  · obtain ⟨h1, h2⟩ := er8_zero e
    obtain ⟨k1, k2, k3⟩ := erS_zero h1
    simp only [e, bne_self_eq_false, cond_false, if_true]
    rw [f38_eq hN (by omega) hl k1 k3 h2]
    rfl
  · have e' : (er8 2097152 x l != 0) = true := by simpa using e
    simp only [e, e', cond_true, if_false]
theorem lapZeros (l : List Int) : f10F 200000 l = some ((), (true, ())) := by
  unfold f10F
  rw [awake (by omega)]
  by_cases hl : 40 < (l.length : Int)
  · simp [hl]
  rw [f27_eq (by omega) (by omega)]
  cases h1 : lay l
  · simp [hl]
  obtain ⟨hA, h2⟩ := lay_all h1
  rw [f28_eq hA (by omega) (by omega)]
  have hs := sum_bd hA
  obtain ⟨Z, hZ⟩ : ∃ Z : List Int, Z = List.replicate (Int.toNat l.sum) (0 : Int) := ⟨_, rfl⟩
  have hz : ZZ 0 Z := by rw [hZ]; exact ZZ.rep _
  have hzl : (Z.length : Int) = l.sum := by rw [hZ, List.length_replicate]; omega
  have he : erS Z l = 0 := by unfold erS; rw [h1, if_pos rfl, if_pos hzl]
  have e1 : er8 65536 Z l = 0 := by unfold er8; rw [if_pos he, if_pos (inR_zero (by omega) hz)]
  have e2 : er8 2097152 Z l = 0 := by unfold er8; rw [if_pos he, if_pos (inR_zero (by omega) hz)]
  have hn := nl_sum hA
  have hzn : Z.length = (nl l).sum := by omega
  have z1 : flds false 200000 0 (nl l) Z = Z := by rw [(flds_zero false 200000 _ 0 Z hz).eq (flds_len _ _ _ _ _), ← hz.eq rfl]
  have z2 : flds true 200000 0 (nl l) Z = Z := by rw [(flds_zero true 200000 _ 0 Z hz).eq (flds_len _ _ _ _ _), ← hz.eq rfl]
  have z3 : blk (fwd 200000) (nl l) Z = Z := by rw [(blk_fwd_zero 200000 (nl l) Z hz).eq (blk_len (fwd 200000) (p07.fwd_len 200000) _ Z (nl_all hA)), ← hz.eq hzn]
  have z4 : blk (inv 200000) (nl l) Z = Z := blk_inv_zero 200000 (nl_all hA) hz hzn
  have c1 : f14F 200000 Z l = some ((Z, ()), ((), (0, ()))) := by
    rw [f14_big (by omega) (by omega) (by omega)]; unfold resFwd; rw [e1, if_pos rfl, z1, z3]
  have c2 : f17F 200000 Z l = some ((Z, ()), ((), (0, ()))) := by
    rw [f17_big (by omega) (by omega) (by omega)]; unfold resInv invL; rw [e2, if_pos rfl, z4, z2]
  have g1 : 0 ≤ l.sum := by omega
  have g2 : l.sum * 8 ≤ 140737488355328 := by omega
  have hi : f16F 200000 Z Z = some ((), (true, ())) := by rw [p06.f20_eq _ (by omega) (by omega)]; simp
  simp only [hl, decide_false, cond_false, Option.bind_some, Bool.not_true, ← hZ, c1, c2, hi]
  simp [g1, g2]
end Go.Sh.c08
