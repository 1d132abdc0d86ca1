/- slices.Delete at one pair of a row of the call's own. -/
import Derived.Test.YtgpllffiahccjaaSPair
import Derived.Test.YtgpllffiahccjaaSet
import Derived.Deep.RegionLaw
namespace Go.Proofs.Ytgpllffiahccjaa
set_option linter.unusedSimpArgs false
set_option linter.unusedVariables false
attribute [local go_sem] n_lt2 n_lt3 n_lt4 n_le2 n_le3
open Go.RowKit

theorem zero_Pair (w : World) : (zeroValue 101).run Try.prog w = .ok (.agg #[.int .i64 0, .int .i64 0]) w := by kernel_rfl
set_option maxRecDepth 100000 in
set_option maxHeartbeats 2000000 in
theorem deletePair_at (g lo n cap k j : Nat) (cs : Array Value) (news : List Value) (w : World) (K : Blk w g 101 cs) (hlo : lo ≤ g) (hcs : cs.size = cap * 2) (hkj : j = k + 1) (hjn : j ≤ n) (hnc : n ≤ cap) (hcm : cap ≤ maxLen)
    (hnl : news.length = (n - j) * 2) (hnw : ∀ t u, news[t]? = some u → cs[j * 2 + t]? = some u) (h1 : ∀ u ∈ news, u.oneCell' = true) :
    Calls Try.prog 102 #[.slice (some ⟨g, 0, none⟩) n cap, .int .i64 (k : Nat), .int .i64 (j : Nat)] w fun e w' => e = .returned (.slice (some ⟨g, 0, none⟩) (k + (n - j)) cap) ∧
      Blk w' g 101 (over (over cs (k * 2) news) ((k + (n - j)) * 2) (zeros ((n - (k + (n - j))) * 2))) ∧ Below lo w w' := by
  unfold maxLen at hcm
  obtain ⟨i0, hi0, hz0, hs0, hy0⟩ := info_parts info_Pair
  obtain ⟨A, hA, hsrc⟩ : ∃ A : Addr, (if cap = j then some (⟨g, 0, none⟩ : Addr) else some ⟨g, j * 2, none⟩) = some A ∧ Hid (∀ t u, news[t]? = some u → w.drew.cell? (A.add t) = some u) := by
    by_cases h : cap = j
    · refine ⟨⟨g, 0, none⟩, by simp [h], fun t u hu => ?_⟩
      have h0 : news.length = 0 := by rw [hnl]; omega
      rw [List.length_eq_zero_iff.1 h0] at hu
      simp at hu
    · refine ⟨⟨g, j * 2, none⟩, by simp [h], fun t u hu => ?_⟩
      have : (⟨g, j * 2, none⟩ : Addr).add t = ⟨g, j * 2 + t, none⟩ := by unfold Addr.add; split <;> simp_all
      rw [this]
      exact (K.drew.cell _).trans (hnw t u hu)
  have s1 : Hid (news.length = (n - j) * 2) := hnl
  have s2 : Hid (∀ u ∈ news, u.oneCell' = true) := h1
  have s3 : Hid (∀ t, t < news.length → (w.drew.cell? ⟨g, 0 + k * 2 + t, none⟩).isSome = true ∧ w.drew.frozen? ⟨g, 0 + k * 2 + t, none⟩ = false) := by
    intro t ht
    obtain ⟨c, hc⟩ := K.drew.has (i := 0 + k * 2 + t) (by omega)
    exact ⟨by rw [hc]; rfl, K.drew.frozen _⟩
  obtain ⟨W1, hW1⟩ : ∃ W1, W1 = w.drew.setCells g (0 + k * 2) news := ⟨_, rfl⟩
  have K1 : Blk W1 g 101 (over cs (k * 2) news) := by rw [hW1, Nat.zero_add]; exact Blk.over _ _ _ _ K.drew
  have b1 : Below lo w W1 := by rw [hW1]; exact below_setCells hlo _ _ _ (Below.drew (Below.refl _ _))
  have hsz1 : (over cs (k * 2) news).size = cap * 2 := by rw [over_size, hcs]
  have hcl : ∀ ty, (Builtin.clear_ #[41] ty #[.slice (some ⟨g, (k + (n - j)) * 2, none⟩) (n - (k + (n - j))) (cap - (k + (n - j)))]).run Try.prog W1 = .ok (.tuple #[]) (W1.setCells g ((k + (n - j)) * 2) (zeros ((n - (k + (n - j))) * 2))) :=
    fun ty => run_clear_flat W1 _ _ ty _ 2 Try.underlying41 zero_Pair rfl g ((k + (n - j)) * 2) _ _ (by omega)
      (fun t ht => by obtain ⟨c, hc⟩ := K1.has (i := (k + (n - j)) * 2 + t) (by omega); rw [hc]; rfl) (fun t _ => K1.frozen _)
  have hW : Hid (W1 = w.drew.setCells g (0 + k * 2) news) := hW1
  have HF := Lib.hid (And.intro K1 b1)
  have hlt : k < j := by omega
  have hkn : k ≤ n := by omega
  have hkc : k ≤ cap := by omega
  have hjc : j ≤ cap := by omega
  have hne : ¬ (k : Int) = (j : Int) := by omega
  clear hW1 hnl hnw h1 K K1 b1 hsz1 hcs hkj
  go_enter Try.func102, Try.ntmps102
  go_wp2_with fail
  go_region_law (refine step_append_room rfl (.tmp 22) (.tmp 25) 41 rfl 101 i0 2 Try.underlying41 hi0 hs0 g 0 k cap (by simp [Act.eval, Act.put]) A (n - j) (cap - j) news (by simp [Act.eval, Act.put]) s1.out hsrc.out s2.out (by omega) s3.out ?_; rw [← hW.out])
  go_wp2
  go_ret
  exact ⟨rfl, Blk.over _ _ _ _ HF.out.1, below_setCells hlo _ _ _ HF.out.2⟩
/-- Delete of element k: the row without it. -/
theorem deletePair_any (lo : Nat) (A : Option Addr) (n cap k : Nat) (zs : List Int) (w : World) (R : Row w lo 101 2 A n cap zs) (hk : k < n) :
    Calls Try.prog 102 #[.slice A n cap, .int .i64 (k : Nat), .int .i64 ((k + 1 : Nat) : Int)] w fun e w' => e = .returned (.slice A (n - 1) cap) ∧ Row w' lo 101 2 A (n - 1) cap (zs.take (k * 2) ++ zs.drop (k * 2 + 2)) ∧ Below lo w w' := by
  obtain ⟨g, cs, rfl, hlo, K, hnc, hcm, hcs, hj⟩ := R.blk (by omega)
  have hzl := R.len
  have hnl : (ints (zs.drop (k * 2 + 2))).length = (n - (k + 1)) * 2 := by rw [ints_length, List.length_drop]; omega
  refine (deletePair_at g lo n cap k (k + 1) cs (ints (zs.drop (k * 2 + 2))) w K hlo hcs rfl (by omega) hnc hcm hnl (fun t u hu => ?_) (ints_oneCell' _)).mono ?_
  · have ht : t < (zs.drop (k * 2 + 2)).length := by
      have := (List.getElem?_eq_some_iff.1 hu).1
      rwa [ints_length] at this
    rw [ints_get _ t ht] at hu
    rw [List.length_drop] at ht
    rw [hj _ (by omega), ← hu, getD_drop]
    congr 3
    omega
  · rintro e w' ⟨rfl, K', b'⟩
    have e1 : k + (n - (k + 1)) = n - 1 := by omega
    rw [e1] at K' ⊢
    refine ⟨rfl, Row.of_blk K' hlo (by omega) hcm (by rw [over_size, over_size, hcs]) (by simp; omega) (fun t ht => ?_), b'⟩
    rw [over_out _ _ _ _ (.inl (by omega))]
    by_cases h1 : t < k * 2
    · rw [over_out _ _ _ _ (.inl h1), hj t (by omega), getD_append_l _ _ _ (by simp; omega), getD_take _ _ _ h1]
    · have e2 : t = k * 2 + (t - k * 2) := by omega
      rw [e2, over_in _ _ _ _ (by rw [hnl]; omega) (by rw [hnl]; omega), ints_get _ _ (by rw [List.length_drop]; omega), ← e2, getD_append_r _ _ _ (by simp; omega)]
      congr 3
      simp
      omega
end Go.Proofs.Ytgpllffiahccjaa
