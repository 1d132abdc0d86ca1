/- Part 2 of what the claim rests on: InsP, P11, Job1, J1, M1, J2, J4, SInt64, Cur, J6, RJS, AddL, J5, J7, Del, P10, J8, T1. No condition of its own. -/
import Derived.Test.YtokklkmibjpjnaaGreatBd1
import Derived.Deep.RegionLaw
import Derived.Lib.Overlaps
import Derived.Lib.AppendZeros
import Derived.Laws.Externs
import Derived.Laws.NewBlocks
import Derived.Outline
import Derived.Maps.OwnSet
import Derived.Maps.Views
import Derived.OwnWalk
import Derived.Maps.OwnOps
import Derived.Deep.RegionHeldLaw
import Derived.Deep.AppendLies
namespace Go.Proofs.YtokklkmibjpjnaaGreat
set_option linter.unusedSimpArgs false
set_option linter.unusedVariables false
attribute [local go_sem] n_lt2 n_lt3 n_lt4 n_le2 n_le3
open Go.RowKit

/-- What Insert leaves: the row with the new element. -/
def InsResPair (lo n i : Nat) (zs vs : List Int) (w : World) (e : Ending) (w' : World) : Prop := ∃ A' cap', e = .returned (.slice A' (n + 1) cap') ∧ Row w' lo 106 2 A' (n + 1) cap' (zs.take (i * 2) ++ vs ++ zs.drop (i * 2)) ∧ Below lo w w'
theorem zeroI_Pair (w : World) : (zeroValue 106).run Tryz.prog w = .ok (.agg #[.int .i64 0, .int .i64 0]) w := by kernel_rfl
theorem sizeI_Pair (w : World) : (Go.sizeOf 106).run Tryz.prog w = .ok 2 w := by kernel_rfl
set_option maxRecDepth 100000 in
set_option maxHeartbeats 2000000 in
theorem insertPair_end (lo : Nat) (A : Option Addr) (n cap vb : Nat) (zs vs : List Int) (w : World) (R : Row w lo 106 2 A n cap zs) (hlo : lo ≤ w.heap.size) (hn : n ≤ 1000) (hvl : vs.length = 2) (V : Blk w vb 106 (ints vs).toArray) :
    Calls Tryz.prog 115 #[.slice A n cap, .int .i64 (n : Nat), .slice (some ⟨vb, 0, none⟩) 1 1] w (InsResPair lo n n zs vs w) := by
  have hzl := R.len
  have e1 : zs.take (n * 2) ++ vs ++ zs.drop (n * 2) = zs ++ vs := by rw [List.take_of_length_le (by omega), List.drop_eq_nil_of_le (by omega), List.append_nil]
  have hnw : ∀ j u, (ints vs)[j]? = some u → w.cell? ((⟨vb, 0, none⟩ : Addr).add j) = some u := fun j u hu => by
    have ha : (⟨vb, 0, none⟩ : Addr).add j = ⟨vb, j, none⟩ := by unfold Addr.add; split <;> simp_all
    rw [ha, V.cell]
    simpa using hu
  have hcp := R.cap_le
  have hcm : cap ≤ 9223372036854775807 := by have := hcp.2; unfold maxLen at this; omega
  have hcn := hcp.1
  have H1 := Lib.hid hnw
  have H2 := Lib.hid e1
  clear hnw e1 V hcp
  go_enter Tryz.func115, Tryz.ntmps115
  go_wp2_with (at_builtin; refine wpList_append_row rfl _ _ 33 rfl 106 (.agg #[.int .i64 0, .int .i64 0]) 2 16 Tryz.underlying33 info_Pair (by first | kernel_rfl | simp [Value.cells]) (by decide) lo A n cap zs rfl R ⟨vb, 0, none⟩ 1 1 vs rfl (by omega) H1.out (by unfold maxLen; omega) (by omega) hlo ?_; intro A5 c5 w5 R5 B5)
  all_goals (go_ret; exact ⟨A5, c5, rfl, by rw [H2.out]; exact R5, B5⟩)
set_option maxRecDepth 100000 in
set_option maxHeartbeats 4000000 in
theorem insertPair_shift (lo g n cap i vb : Nat) (cs : Array Value) (zs vs : List Int) (w : World) (K : Blk w g 106 cs) (hlo : lo ≤ g) (hcs : cs.size = cap * 2) (hzl : zs.length = n * 2) (hj : ∀ j, j < n * 2 → cs[j]? = some (.int .i64 (zs.getD j 0))) (hcm : cap ≤ maxLen)
    (hi : i < n) (hroom : n + 1 ≤ cap) (hvl : vs.length = 2) (V : Blk w vb 106 (ints vs).toArray) (hvb : vb ≠ g) :
    Calls Tryz.prog 115 #[.slice (some ⟨g, 0, none⟩) n cap, .int .i64 (i : Nat), .slice (some ⟨vb, 0, none⟩) 1 1] w (InsResPair lo n i zs vs w) := by
  unfold maxLen at hcm
  have hsz : (Tryz.prog.info? 106).map (·.size) = some 2 := by kernel_rfl
  have hov : ∀ a lb cb, a = (⟨g, (i + 1) * 2, none⟩ : Addr) → (callFunc 129 #[.slice (some ⟨vb, 0, none⟩) 1 1, .slice (some a) lb cb]).run Tryz.prog w = .ok (.value (.bool false)) w := fun a lb cb ha => by
    subst ha
    rw [run_callFunc_extern Tryz.func129 (by kernel_rfl) (by kernel_rfl) (by kernel_rfl) (e := Extern.SlicesOverlaps.overlaps #[33, 33] #[4]) (by kernel_rfl),
      Lib.run_overlaps_apart w 33 4 106 Tryz.underlying33 2 sizeI_Pair ⟨vb, 0, none⟩ ⟨g, (i + 1) * 2, none⟩ 1 1 lb cb hvb _ _ _ _ V.shape K.shape (by omega) (V.frozen _) (V.frozen _)]
    rfl
  have hdl : (ints (zs.drop (i * 2))).length = (n - i) * 2 := by rw [ints_length, List.length_drop]; omega
  have hcp1 : ∀ ty dc sc, (Builtin.copy_ #[33, 33] ty #[.slice (some ⟨g, (i + 1) * 2, none⟩) (n - i) dc, .slice (some ⟨g, i * 2, none⟩) (n + 1 - i) sc]).run Tryz.prog w.drew = .ok (goInt ((n - i : Nat) : Int)) (w.drew.setCells g ((i + 1) * 2) (ints (zs.drop (i * 2)))) := fun ty dc sc =>
    run_copy_flat w.drew _ _ ty 106 2 (n - i) g ((i + 1) * 2) (n - i) dc ⟨g, i * 2, none⟩ (n + 1 - i) sc _ Tryz.underlying33 hsz (by simp only [Nat.min_def]; split <;> omega) hdl
      (fun j v hjv => by
        have ha : (⟨g, i * 2, none⟩ : Addr).add j = ⟨g, i * 2 + j, none⟩ := by unfold Addr.add; split <;> simp_all
        have hjl : j < (zs.drop (i * 2)).length := by
          have := (List.getElem?_eq_some_iff.1 hjv).1
          rwa [ints_length] at this
        rw [ints_get _ j hjl] at hjv
        rw [List.length_drop] at hjl
        rw [ha, K.drew.cell, hj _ (by omega), ← hjv, getD_drop])
      (fun j hj' => by rw [hdl] at hj'; obtain ⟨c, hc⟩ := K.drew.has (i := (i + 1) * 2 + j) (by omega); rw [hc]; rfl) (fun j _ => K.drew.frozen _) (ints_oneCell' _)
  obtain ⟨W1, hW1⟩ : ∃ W1, W1 = w.drew.setCells g ((i + 1) * 2) (ints (zs.drop (i * 2))) := ⟨_, rfl⟩
  rw [← hW1] at hcp1
  have K1 : Blk W1 g 106 (over cs ((i + 1) * 2) (ints (zs.drop (i * 2)))) := by rw [hW1]; exact Blk.over _ _ _ _ K.drew
  have V1 : Blk W1 vb 106 (ints vs).toArray := by rw [hW1]; exact (heap_setCells hvb _ _ _).trans V
  have b1 : Below lo w W1 := by rw [hW1]; exact below_setCells hlo _ _ _ (Below.drew (Below.refl _ _))
  have hs1 : (over cs ((i + 1) * 2) (ints (zs.drop (i * 2)))).size = cap * 2 := by rw [over_size, hcs]
  have hcp2 : ∀ ty dc, (Builtin.copy_ #[33, 33] ty #[.slice (some ⟨g, i * 2, none⟩) (n + 1 - i) dc, .slice (some ⟨vb, 0, none⟩) 1 1]).run Tryz.prog W1 = .ok (goInt ((1 : Nat) : Int)) (W1.setCells g (i * 2) (ints vs)) := fun ty dc =>
    run_copy_flat W1 _ _ ty 106 2 1 g (i * 2) (n + 1 - i) dc ⟨vb, 0, none⟩ 1 1 _ Tryz.underlying33 hsz (by simp only [Nat.min_def]; split <;> omega) (by rw [ints_length]; omega)
      (fun j v hjv => by
        have ha : (⟨vb, 0, none⟩ : Addr).add j = ⟨vb, j, none⟩ := by unfold Addr.add; split <;> simp_all
        rw [ha, V1.cell]
        simpa using hjv)
      (fun j hj' => by rw [ints_length] at hj'; obtain ⟨c, hc⟩ := K1.has (i := i * 2 + j) (by omega); rw [hc]; rfl) (fun j _ => K1.frozen _) (ints_oneCell' _)
  have K2 : Blk (W1.setCells g (i * 2) (ints vs)) g 106 (over (over cs ((i + 1) * 2) (ints (zs.drop (i * 2)))) (i * 2) (ints vs)) := Blk.over _ _ _ _ K1
  have b2 : Below lo w (W1.setCells g (i * 2) (ints vs)) := below_setCells hlo _ _ _ b1
  have hfin : Row (W1.setCells g (i * 2) (ints vs)) lo 106 2 (some ⟨g, 0, none⟩) (n + 1) cap (zs.take (i * 2) ++ vs ++ zs.drop (i * 2)) := by
    refine Row.of_blk K2 hlo hroom (by unfold maxLen; omega) (by rw [over_size, hs1]) (by simp; omega) (fun t ht => ?_)
    rw [ins_getD _ _ _ _ (by omega)]
    split
    · rename_i h1
      rw [over_out _ _ _ _ (.inl h1), over_out _ _ _ _ (.inl (by omega)), hj t (by omega)]
    · split
      · rename_i h1 h2
        rw [show t = i * 2 + (t - i * 2) by omega, over_in _ _ _ _ (by rw [hs1, ints_length]; omega) (by rw [ints_length]; omega), ints_get _ _ (by omega)]
        congr 3
        omega
      · rename_i h1 h2
        rw [over_out _ _ _ _ (.inr (by rw [ints_length]; omega)), show t = (i + 1) * 2 + (t - (i + 1) * 2) by omega, over_in _ _ _ _ (by rw [hdl]; omega) (by rw [hdl]; omega), ints_get _ _ (by rw [List.length_drop]; omega), getD_drop]
        congr 3
        omega
  have HF := Lib.hid (And.intro hfin b2)
  have HO := Lib.hid hov
  have hz2 : ¬ ((i : Int) = (n : Int)) := by omega
  have hb1 : (0 : Int) ≤ (i : Int) + 1 := by omega
  have hin : i ≤ n := by omega
  have htn : ((i : Int) + 1).toNat = i + 1 := by omega
  have hw1 : IntKind.i64.wrap ((i : Int) + 1) = (i : Int) + 1 := by simp [IntKind.wrap, IntKind.bits, IntKind.signed]; omega
  have hb2 : ¬ (cap = i + 1) := by omega
  have hb3 : (i : Int) ≤ (n : Int) + 1 := by omega
  have hb4 : ¬ (cap = i) := by omega
  have hov' := hov _ (n - i) (cap - (i + 1)) rfl
  clear K V K1 V1 b1 K2 b2 hfin hW1 hj hov hdl hs1
  go_enter Tryz.func115, Tryz.ntmps115
  go_wp2_with (simp only [hov'])
  go_region_law (refine step_copy_runI rfl _ _ 33 33 rfl _ _ (by simp [Act.eval, Act.put]) (by simp [Act.eval, Act.put]) (hcp1 _ _ _) ?_)
  go_wp2_with (at_builtin; refine wpList_copy_runI _ rfl _ _ 33 33 rfl _ _ rfl rfl (hcp2 _ _) ?_)
  go_ret
  exact ⟨_, _, rfl, HF.out.1, HF.out.2⟩
set_option maxRecDepth 100000 in
set_option maxHeartbeats 4000000 in
theorem insertPair_grow (lo g n i vb : Nat) (cs : Array Value) (zs vs : List Int) (w : World) (K : Blk w g 106 cs) (hlo : lo ≤ g) (hcs : cs.size = n * 2) (hzl : zs.length = n * 2) (hj : ∀ j, j < n * 2 → cs[j]? = some (.int .i64 (zs.getD j 0)))
    (hi : i < n) (hn : n ≤ 1000) (hvl : vs.length = 2) (V : Blk w vb 106 (ints vs).toArray) :
    Calls Tryz.prog 115 #[.slice (some ⟨g, 0, none⟩) n n, .int .i64 (i : Nat), .slice (some ⟨vb, 0, none⟩) 1 1] w (InsResPair lo n i zs vs w) := by
  obtain ⟨i0, hi0, hz0, hzs, hzb⟩ := info_parts info_Pair
  have hsz : (Tryz.prog.info? 106).map (·.size) = some 2 := by kernel_rfl
  have hz2 : ¬ ((i : Int) = (n : Int)) := by omega
  have hz3 : (n : Int) < (n : Int) + 1 := by omega
  have hkk : (n : Int) + 1 - (i : Int) = ((n + 1 - i : Nat) : Int) := by omega
  have hik : i + (n + 1 - i) = n + 1 := by omega
  have hgl := K.lt
  have hvw := V.lt
  have hold : (Builtin.firstCells i0.size i (.slice (some ⟨g, 0, none⟩) i n)).run Tryz.prog w.drew = .ok (ints (zs.take (i * 2))).toArray w.drew := by
    rw [hzs]
    refine run_firstCells_some w.drew 2 i ⟨g, 0, none⟩ i n _ (by rw [ints_length, List.length_take]; omega) (fun j v hjv => ?_)
    have ha : (⟨g, 0, none⟩ : Addr).add j = ⟨g, j, none⟩ := by unfold Addr.add; split <;> simp_all
    have hjl : j < (zs.take (i * 2)).length := by
      have := (List.getElem?_eq_some_iff.1 hjv).1
      rwa [ints_length] at this
    rw [ints_get _ j hjl] at hjv
    rw [List.length_take] at hjl
    rw [ha, K.drew.cell, hj _ (by omega), ← hjv, getD_take _ _ _ (by omega)]
  obtain ⟨G, hG⟩ : ∃ G, G = grownCap w (n + 1) n 106 := ⟨_, rfl⟩
  obtain ⟨ROW, hROW⟩ : ∃ ROW : Array Value, ROW = (ints (zs.take (i * 2))).toArray ++ Builtin.zeroCells ((.agg #[.int .i64 0, .int .i64 0]) : Value).cells (n + 1 - i) ++ Builtin.zeroCells ((.agg #[.int .i64 0, .int .i64 0]) : Value).cells (G - (n + 1)) := ⟨_, rfl⟩
  have hrz : ∀ ty, (Builtin.append_ #[33, 3] ty #[.slice (some ⟨g, 0, none⟩) i n, .int .i64 ((n : Int) + 1 - (i : Int))]).run Tryz.prog w =
      .ok (.slice (some ⟨w.heap.size, 0, none⟩) (n + 1) G) (w.drew.alloc (.cells ROW 106)) := fun ty => by
    have h := Lib.run_append_grow_zeros w 33 3 ty 106 i0 _ .i64 .i64 Tryz.underlying33 Tryz.underlying3 hi0 hz0 (some ⟨g, 0, none⟩) i n _ hold (n + 1 - i) (by omega) (by omega) (by omega) (by omega) (by rw [hzb]; omega) (by rw [hzb, hik]; exact growslice_fits (by omega) (by omega))
    rw [hik, ← hG] at h
    rw [hkk, hROW]
    exact h
  have hGn : n + 1 ≤ G := by rw [hG]; exact grownCap_ge w _ _ _
  have hGm : G ≤ maxLen := by
    rw [hG]
    exact grownCap_le_maxLen w (n + 1) n 106 (by unfold maxLen; omega)
  have hzc : ∀ k, (Builtin.zeroCells ((.agg #[.int .i64 0, .int .i64 0]) : Value).cells k).toList = zeros (k * 2) := fun k => zeroCells_flat (z := (.agg #[.int .i64 0, .int .i64 0])) (s := 2) rfl k
  have hzsz : ∀ k, (Builtin.zeroCells ((.agg #[.int .i64 0, .int .i64 0]) : Value).cells k).size = k * 2 := fun k => by rw [← Array.length_toList, hzc, zeros_length]
  have hRs : ROW.size = G * 2 := by
    rw [hROW, Array.size_append, Array.size_append, hzsz, hzsz]
    simp only [List.size_toArray, ints_length, List.length_take]
    omega
  have hRj : ∀ t, t < i * 2 → ROW[t]? = some (.int .i64 (zs.getD t 0)) := fun t ht => by
    rw [hROW, Array.getElem?_append_left (by rw [Array.size_append, hzsz]; simp only [List.size_toArray, ints_length, List.length_take]; omega), Array.getElem?_append_left (by simp only [List.size_toArray, ints_length, List.length_take]; omega), List.getElem?_toArray, ints_get _ _ (by rw [List.length_take]; omega), getD_take _ _ _ ht]
  have hlw : lo ≤ w.heap.size := by omega
  -- the three worlds
  obtain ⟨W1, hW1⟩ : ∃ W1, W1 = w.drew.alloc (.cells ROW 106) := ⟨_, rfl⟩
  rw [← hW1] at hrz
  have N1 : Blk W1 w.heap.size 106 ROW := by rw [hW1]; exact Blk.new w.drew _ _
  have K1 : Blk W1 g 106 cs := by rw [hW1]; exact K.drew.alloc _
  have V1 : Blk W1 vb 106 (ints vs).toArray := by rw [hW1]; exact V.drew.alloc _
  have b1 : Below lo w W1 := by rw [hW1]; exact Below.alloc (Below.drew (Below.refl _ _)) hlw _
  have hcpA : ∀ ty dc, (Builtin.copy_ #[33, 33] ty #[.slice (some ⟨w.heap.size, i * 2, none⟩) (n + 1 - i) dc, .slice (some ⟨vb, 0, none⟩) 1 1]).run Tryz.prog W1 = .ok (goInt ((1 : Nat) : Int)) (W1.setCells w.heap.size (i * 2) (ints vs)) := fun ty dc =>
    run_copy_flat W1 _ _ ty 106 2 1 w.heap.size (i * 2) (n + 1 - i) dc ⟨vb, 0, none⟩ 1 1 _ Tryz.underlying33 hsz (by simp only [Nat.min_def]; split <;> omega) (by rw [ints_length]; omega)
      (fun j v hjv => by
        have ha : (⟨vb, 0, none⟩ : Addr).add j = ⟨vb, j, none⟩ := by unfold Addr.add; split <;> simp_all
        rw [ha, V1.cell]
        simpa using hjv)
      (fun j hj' => by rw [ints_length] at hj'; obtain ⟨c, hc⟩ := N1.has (i := i * 2 + j) (by omega); rw [hc]; rfl) (fun j _ => N1.frozen _) (ints_oneCell' _)
  obtain ⟨W2, hW2⟩ : ∃ W2, W2 = W1.setCells w.heap.size (i * 2) (ints vs) := ⟨_, rfl⟩
  rw [← hW2] at hcpA
  have N2 : Blk W2 w.heap.size 106 (over ROW (i * 2) (ints vs)) := by rw [hW2]; exact Blk.over _ _ _ _ N1
  have K2 : Blk W2 g 106 cs := by rw [hW2]; exact (heap_setCells (by omega) _ _ _).trans K1
  have b2 : Below lo w W2 := by rw [hW2]; exact below_setCells hlw _ _ _ b1
  have hs2 : (over ROW (i * 2) (ints vs)).size = G * 2 := by rw [over_size, hRs]
  have hdl : (ints (zs.drop (i * 2))).length = (n - i) * 2 := by rw [ints_length, List.length_drop]; omega
  have hcpB : ∀ ty dc sc, (Builtin.copy_ #[33, 33] ty #[.slice (some ⟨w.heap.size, (i + 1) * 2, none⟩) (n - i) dc, .slice (some ⟨g, i * 2, none⟩) (n - i) sc]).run Tryz.prog W2.drew = .ok (goInt ((n - i : Nat) : Int)) (W2.drew.setCells w.heap.size ((i + 1) * 2) (ints (zs.drop (i * 2)))) := fun ty dc sc =>
    run_copy_flat W2.drew _ _ ty 106 2 (n - i) w.heap.size ((i + 1) * 2) (n - i) dc ⟨g, i * 2, none⟩ (n - i) sc _ Tryz.underlying33 hsz (by simp only [Nat.min_def]; split <;> omega) hdl
      (fun j v hjv => by
        have ha : (⟨g, i * 2, none⟩ : Addr).add j = ⟨g, i * 2 + j, none⟩ := by unfold Addr.add; split <;> simp_all
        have hjl : j < (zs.drop (i * 2)).length := by
          have := (List.getElem?_eq_some_iff.1 hjv).1
          rwa [ints_length] at this
        rw [ints_get _ j hjl] at hjv
        rw [List.length_drop] at hjl
        rw [ha, K2.drew.cell, hj _ (by omega), ← hjv, getD_drop])
      (fun j hj' => by rw [hdl] at hj'; obtain ⟨c, hc⟩ := N2.drew.has (i := (i + 1) * 2 + j) (by omega); rw [hc]; rfl) (fun j _ => N2.drew.frozen _) (ints_oneCell' _)
  obtain ⟨W3, hW3⟩ : ∃ W3, W3 = W2.drew.setCells w.heap.size ((i + 1) * 2) (ints (zs.drop (i * 2))) := ⟨_, rfl⟩
  rw [← hW3] at hcpB
  have N3 : Blk W3 w.heap.size 106 (over (over ROW (i * 2) (ints vs)) ((i + 1) * 2) (ints (zs.drop (i * 2)))) := by rw [hW3]; exact Blk.over _ _ _ _ N2.drew
  have b3 : Below lo w W3 := by rw [hW3]; exact below_setCells hlw _ _ _ (Below.drew b2)
  have hfin : Row W3 lo 106 2 (some ⟨w.heap.size, 0, none⟩) (n + 1) G (zs.take (i * 2) ++ vs ++ zs.drop (i * 2)) := by
    refine Row.of_blk N3 hlw hGn hGm (by rw [over_size, hs2]) (by simp; omega) (fun t ht => ?_)
    have hil : i * 2 ≤ n * 2 := Nat.mul_le_mul_right _ (by omega)
    have hGs : (n + 1) * 2 ≤ G * 2 := Nat.mul_le_mul_right _ hGn
    rw [ins_getD _ _ _ _ (by omega)]
    split
    · rename_i h1
      rw [over_out _ _ _ _ (.inl (by omega)), over_out _ _ _ _ (.inl h1), hRj t h1]
    · split
      · rename_i h1 h2
        rw [over_out _ _ _ _ (.inl (by omega)), show t = i * 2 + (t - i * 2) by omega, over_in _ _ _ _ (by rw [hRs, ints_length]; omega) (by rw [ints_length]; omega), ints_get _ _ (by omega)]
        congr 3
        omega
      · rename_i h1 h2
        rw [show t = (i + 1) * 2 + (t - (i + 1) * 2) by omega, over_in _ _ _ _ (by rw [hs2, hdl]; omega) (by rw [hdl]; omega), ints_get _ _ (by rw [List.length_drop]; omega), getD_drop]
        congr 3
        omega
  have HF := Lib.hid (And.intro hfin b3)
  unfold maxLen at hGm
  have hGi : ¬ (G = i) := by omega
  have hGim : ¬ (G = i + 1) := by omega
  have hci : ¬ (n = i) := by omega
  have hw1 : IntKind.i64.wrap ((i : Int) + 1) = (i : Int) + 1 := by simp [IntKind.wrap, IntKind.bits, IntKind.signed]; omega
  have hb1 : (0 : Int) ≤ (i : Int) + 1 := by omega
  have hin : i ≤ n := by omega
  have htn : ((i : Int) + 1).toNat = i + 1 := by omega
  have hb3 : (i : Int) ≤ (n : Int) := by omega
  clear K V N1 K1 V1 b1 N2 K2 b2 N3 b3 hfin hW1 hW2 hW3 hj hdl hs2 hRj hRs hzsz hzc hROW hG hold hkk hik
  go_enter Tryz.func115, Tryz.ntmps115
  go_wp2_with (first
    | (at_builtin; refine Lib.wpList_append_run _ rfl _ _ _ _ rfl _ _ rfl rfl _ _ (hrz _) ?_)
    | (at_builtin; refine wpList_copy_runI _ rfl _ _ 33 33 rfl _ _ rfl rfl (hcpA _ _) ?_))
  go_region_law (refine step_copy_runI rfl _ _ 33 33 rfl _ _ (by simp [Act.eval, Act.put]) (by simp [Act.eval, Act.put]) (hcpB _ _ _) ?_)
  go_wp2
  go_ret
  exact ⟨_, _, rfl, HF.out.1, HF.out.2⟩
/-- All three roads. -/
theorem insertPair_any (lo : Nat) (A : Option Addr) (n cap i vb : Nat) (zs vs : List Int) (w : World) (R : Row w lo 106 2 A n cap zs) (hlo : lo ≤ w.heap.size) (hn : n ≤ 1000) (hi : i ≤ n) (hvl : vs.length = 2) (V : Blk w vb 106 (ints vs).toArray) (hvb : ∀ a, A = some a → a.block ≠ vb) :
    Calls Tryz.prog 115 #[.slice A n cap, .int .i64 (i : Nat), .slice (some ⟨vb, 0, none⟩) 1 1] w (InsResPair lo n i zs vs w) := by
  by_cases hin : i = n
  · subst hin
    exact insertPair_end lo A i cap vb zs vs w R hlo hn hvl V
  · obtain ⟨g, cs, rfl, hlg, K, hnc, hcm, hcs, hj⟩ := R.blk (by omega)
    by_cases hroom : n + 1 ≤ cap
    · exact insertPair_shift lo g n cap i vb cs zs vs w K hlg hcs R.len hj hcm (by omega) hroom hvl V (Ne.symm (hvb _ rfl))
    · obtain rfl : cap = n := by omega
      exact insertPair_grow lo g cap i vb cs zs vs w K hlg hcs R.len hj (by omega) hn hvl V
end Go.Proofs.YtokklkmibjpjnaaGreat
namespace Go.Proofs.YtokklkmibjpjnaaGreat
set_option linter.unusedSimpArgs false
set_option linter.unusedVariables false
attribute [local go_sem] n_lt2 n_lt3 n_lt4 n_le2 n_le3
open Go.RowKit
attribute [local go_sem] Ext.cell Ext.frozen

def RetPut (w : World) (l : List Pr) (key v : Int) (e : Ending) (w' : World) : Prop := RetRowB w 106 2 (putR l key v).1.length (PR (putR l key v).1) (putR l key v).2 e w'
theorem retPut {w w' : World} {l l' : List Pr} {key v : Int} {A : Option Addr} {n cap : Nat} {b : Bool} (h : putR l key v = (l', b)) (hn : n = l'.length) (R : Row w' w.heap.size 106 2 A n cap (PR l')) (hb : Below w.heap.size w w') :
    RetPut w l key v (.returned (.tuple #[.slice A n cap, .bool b])) w' := by
  unfold RetPut
  rw [h]
  subst hn
  exact ⟨A, cap, rfl, R, hb⟩
set_option maxRecDepth 100000 in
set_option maxHeartbeats 800000 in
theorem l14Copy_any (A : Option Addr) (n cap : Nat) (l : List Pr) (w : World) (hS : Sl w 2 A n (PR l)) (hl : l.length = n) (hn : n ≤ 1000) (hA : A = none → n = 0 ∧ cap = 0) :
    Calls Tryz.prog 65 #[.slice A n cap] w (RetRow w 106 2 n (PR l)) := by
  have R0 : Row (w.alloc (.cells #[] 106)) w.heap.size 106 2 (some ⟨w.heap.size, 0, none⟩) 0 0 [] := row0p (Blk.new w _ _) (Nat.le_refl _)
  have hnw := fun ad (h : A = some ad) => sl_news (hS.below ((Below.refl w.heap.size w).alloc (Nat.le_refl _) (.cells #[] 106))) h
  have hPl : (PR l).length = n * 2 := by rw [PR_len, hl]
  cases A with
  | none =>
    obtain ⟨rfl, rfl⟩ := hA rfl
    have hz : PR l = [] := List.eq_nil_of_length_eq_zero (by omega)
    rw [hz]
    obtain ⟨i0, hi0, hz0, hs0, hy0⟩ := info_parts info_Pair
    clear hnw hS hA hPl
    go_enter Tryz.func65, Tryz.ntmps65
    go_wp2_with (at_builtin; refine wpList_append_own_none rfl _ _ 33 rfl w.heap.size 106 i0 2 Tryz.underlying33 hi0 (.slice (some ⟨w.heap.size, 0, none⟩) 0 0) 0 [] rfl R0 rfl ?_)
    go_ret
    exact RetRow.mk R0 (by (repeat' (first | (with_reducible exact Below.refl _ _) | (with_reducible assumption) | (with_reducible refine Below.alloc ?_ ?_ _) | (with_reducible refine Below.drew ?_) | (with_reducible refine Below.setCell ?_ ?_ _) | (with_reducible refine bstep (by assumption) ?_ ?_) | (with_reducible exact Nat.le_refl _) | omega | (simp [*]; done) | (simp [*]; omega))))
  | some ad =>
    have hnw' := Lib.hid (hnw ad rfl)
    clear hnw hS hA
    go_enter Tryz.func65, Tryz.ntmps65
    go_wp2_with (at_builtin; refine wpList_append_row rfl _ _ 33 rfl 106 (.agg #[.int .i64 0, .int .i64 0]) 2 16 Tryz.underlying33 info_Pair (by first | kernel_rfl | simp [Value.cells]) (by decide) w.heap.size (some ⟨w.heap.size, 0, none⟩) 0 0 [] rfl R0 ad n cap (PR l) rfl hPl hnw'.out (by unfold maxLen; omega) (by omega) (by simp) ?_; intro A5 c5 w5 R5 B5)
    go_ret
    simp only [Nat.zero_add, List.nil_append] at R5 ⊢
    exact RetRow.mk R5 (((Below.refl w.heap.size w).alloc (Nat.le_refl _) _).trans B5)
set_option maxRecDepth 100000 in
set_option maxHeartbeats 2000000 in
theorem specPut_any (A : Option Addr) (n cap : Nat) (l : List Pr) (key v : Int) (w : World) (hS : Sl w 2 A n (PR l)) (hl : l.length = n) (hn : n ≤ maxLen) (hA : A = none → n = 0 ∧ cap = 0) :
    Calls Tryz.prog 29 #[.slice A n cap, .int .i64 key, .int .i64 v] w (RetPut w l key v) := by
  have c1 := specPairsOk_any A n cap l w hS hl hn
  by_cases hpa : pairsB l = true
  · have h10 : n ≤ 10 := by have := pairsB_len hpa; omega
    rw [hpa] at c1
    have HPA := Lib.hid hpa
    have HL := Lib.hid hl
    have HS := Lib.hid hS
    by_cases hr : rightB key v = true
    · have hkr : 0 ≤ key ∧ key ≤ 9 := by
        unfold rightB at hr
        simp only [Bool.and_eq_true, inB_iff] at hr
        exact hr.1
      have HR := Lib.hid (show putR l key v = (putL l key v, true) by unfold putR; rw [if_pos hpa, if_pos hr])
      have HT := Lib.hid (putTo_all (v := v) hpa hkr)
      obtain ⟨hk0, hk9⟩ := hkr
      clear hpa hl hS
      go_enter Tryz.func29, Tryz.ntmps29
      go_wp2_with fail
      refine c1.mono ?_
      rintro e w1 ⟨rfl, b1⟩
      go_wp2_with fail
      refine (l14Right_any key v w1).mono ?_
      rintro e w2 ⟨rfl, b2⟩
      rw [hr]
      have hbl2 := bthen b1 b2
      clear b1 b2
      go_wp2
      go_loopw [8, 9] (fun o i wr => ∃ k A0 n0 c0 zs, k ≤ 10 ∧ n0 ≤ k ∧ i = .int .i64 (k : Nat) ∧ o = .slice A0 n0 c0 ∧ Row wr w.heap.size 106 2 A0 n0 c0 zs ∧ Hid (zs = PR (putTo l key v k)) ∧ Below w.heap.size w wr) (fun _ i _ => 10 - (intOf i).toNat)
      case atStart => exact ⟨0, _, _, _, _, by omega, Nat.le_refl _, rfl, rfl, row0p (Blk.new w2 _ _) hbl2.size, Lib.hid rfl, hbl2.alloc hbl2.size _⟩
      case round =>
        obtain ⟨k, A0, n0, c0, zs, hk, hn0, rfl, rfl, R, hz, hbl⟩ := hrel
        by_cases hlt : k < 10
        · have hlt' : (k : Int) ≤ 9 := by omega
          have c2 := specValueAt_any A n cap l (k : Int) wr (HS.out.below hbl) HL.out hn
          have hv : valueAtB l (k : Int) = valAt l k := by unfold valueAtB; rw [if_pos HPA.out]
          rw [hv] at c2
          clear hv
          generalize hva : valAt l (k : Int) = va at c2
          obtain ⟨x, y⟩ := va
          have HVA := Lib.hid hva
          clear hva
          go_wp2_with fail
          refine c2.mono ?_
          rintro e w3 ⟨rfl, b3⟩
          have R3 := R.below b3
          have hbl3 := bstep b3 hbl hbl.size
          have hs3 := hbl3.size
          clear b3 R hbl hbl2 c2
          by_cases hkk : (k : Int) = key
          · have HE := Lib.hid (show PR (putTo l key v (k + 1)) = PR (putTo l key v k) ++ [(k : Int), v] by rw [putTo_succ, PR_append]; congr 1; unfold putG; rw [if_pos hkk]; rfl)
            have hkk' : ((k : Int) == key) = true := by simpa using hkk
            clear hkk
            go_wp2_with (at_builtin; refine wpList_append_row rfl _ _ 33 rfl 106 (.agg #[.int .i64 0, .int .i64 0]) 2 16 Tryz.underlying33 info_Pair (by first | kernel_rfl | simp [Value.cells]) (by decide) w.heap.size A0 n0 c0 zs rfl (World.ownsRow.alloc R3 _) ⟨w3.heap.size, 0, none⟩ 1 1 [(k : Int), v] rfl rfl (cell_two_new _ _ _ _) (by unfold maxLen; omega) (by omega) (by simp; omega) ?_; intro A5 c5 w5 R5 B5)
            exact ⟨⟨k + 1, A5, _, c5, _, by omega, by omega, by go_num, rfl, R5, Lib.hid (by rw [HE.out, hz.out]), (hbl3.alloc hs3 _).trans B5⟩, by simp [intOf]; omega⟩
          · have hkk' : ((k : Int) == key) = false := by simpa using hkk
            cases y
            · have HE := Lib.hid (show PR (putTo l key v (k + 1)) = PR (putTo l key v k) by rw [putTo_succ, PR_append]; unfold putG; rw [if_neg hkk, HVA.out]; simp [PR])
              clear hkk
              go_wp2
              exact ⟨⟨k + 1, A0, n0, c0, zs, by omega, by omega, by go_num, rfl, R3, Lib.hid (by rw [HE.out, hz.out]), hbl3⟩, by simp [intOf]; omega⟩
            · have HE := Lib.hid (show PR (putTo l key v (k + 1)) = PR (putTo l key v k) ++ [(k : Int), x] by rw [putTo_succ, PR_append]; unfold putG; rw [if_neg hkk, HVA.out]; simp [PR])
              clear hkk
              go_wp2_with (at_builtin; refine wpList_append_row rfl _ _ 33 rfl 106 (.agg #[.int .i64 0, .int .i64 0]) 2 16 Tryz.underlying33 info_Pair (by first | kernel_rfl | simp [Value.cells]) (by decide) w.heap.size A0 n0 c0 zs rfl (World.ownsRow.alloc R3 _) ⟨w3.heap.size, 0, none⟩ 1 1 [(k : Int), x] rfl rfl (cell_two_new _ _ _ _) (by unfold maxLen; omega) (by omega) (by simp; omega) ?_; intro A5 c5 w5 R5 B5)
              exact ⟨⟨k + 1, A5, _, c5, _, by omega, by omega, by go_num, rfl, R5, Lib.hid (by rw [HE.out, hz.out]), (hbl3.alloc hs3 _).trans B5⟩, by simp [intOf]; omega⟩
        · have hkn : k = 10 := by omega
          subst hkn
          go_wp2
          refine bodyPost_ret (v := .tuple #[.slice A0 n0 c0, .bool true]) (by simp [results, Tryz.results29, go_sem, *]) rfl ?_
          have hzz := hz.out
          rw [HT.out] at hzz
          subst hzz
          refine retPut HR.out ?_ R hbl
          have := R.len
          rw [PR_len] at this
          omega
    · have hr' : rightB key v = false := by simpa using hr
      have HR := Lib.hid (show putR l key v = (l, false) by unfold putR; rw [if_pos hpa, if_neg hr])
      clear hpa hl hS hr
      go_enter Tryz.func29, Tryz.ntmps29
      go_wp2_with fail
      refine c1.mono ?_
      rintro e w1 ⟨rfl, b1⟩
      go_wp2_with fail
      refine (l14Right_any key v w1).mono ?_
      rintro e w2 ⟨rfl, b2⟩
      rw [hr']
      have hbl2 := bthen b1 b2
      go_wp2_with fail
      refine (l14Copy_any A n cap l w2 (HS.out.below hbl2) HL.out (by omega) hA).mono ?_
      rintro e w3 ⟨A3, c3, rfl, R3, b3⟩
      go_wp2
      refine bodyPost_ret (v := .tuple #[.slice A3 n c3, .bool false]) (by simp [results, Tryz.results29, go_sem, *]) rfl ?_
      exact retPut HR.out HL.out.symm (R3.mono hbl2.size) (bthen hbl2 b3)
  · have hpa' : pairsB l = false := by simpa using hpa
    have HR := Lib.hid (show putR l key v = ([], false) by unfold putR; rw [if_neg hpa])
    rw [hpa'] at c1
    go_enter Tryz.func29, Tryz.ntmps29
    go_wp2_with fail
    refine c1.mono ?_
    rintro e w1 ⟨rfl, b1⟩
    go_wp2
    refine bodyPost_ret (v := .tuple #[.slice (some ⟨w1.heap.size, 0, none⟩) 0 0, .bool false]) (by simp [results, Tryz.results29, go_sem, *]) rfl ?_
    exact retPut HR.out rfl (row0p (Blk.new w1 _ _) b1.size) (b1.alloc b1.size _)
end Go.Proofs.YtokklkmibjpjnaaGreat
namespace Go.Proofs.YtokklkmibjpjnaaGreat
set_option linter.unusedSimpArgs false
set_option linter.unusedVariables false
attribute [local go_sem] n_lt2 n_lt3 n_lt4 n_le2 n_le3
open Go.RowKit

def jobB (a b c d e : Int) : Bool := inB a 1 20 && (inB b 0 1000000 && (inB c 0 9 && (inB d 0 999 && inB e 0 2000)))
set_option maxHeartbeats 400000 in
theorem jobOk_any (a b c d e : Int) (w : World) :
    Calls Tryz.prog 90 #[.agg #[.int .i64 a, .int .i64 b, .int .i64 c, .int .i64 d, .int .i64 e]] w fun e' w' => e' = .returned (.bool (jobB a b c d e)) ∧ Below w.heap.size w w' := by
  go_enter Tryz.func90, Tryz.ntmps90
  go_wp2_with (first | (go_at_call 114; refine (idOk_any _ _).mono ?_; rintro e w' ⟨rfl, rfl⟩) | (go_at_call 75; refine (timeOk_any _ _).mono ?_; rintro e w' ⟨rfl, rfl⟩) | (go_at_call 88; refine (keyOk_any _ _).mono ?_; rintro e w' ⟨rfl, rfl⟩) | (go_at_call 89; refine (valueOk_any _ _).mono ?_; rintro e w' ⟨rfl, rfl⟩) | (go_at_call 74; refine (between_any _ _ _ _).mono ?_; rintro e w' ⟨rfl, rfl⟩))
  all_goals (go_ret; unfold jobB; exact ⟨by simp [*], (Below.refl _ _).alloc (Nat.le_refl _) _⟩)
set_option maxHeartbeats 400000 in
theorem specJobOk_any (a b c d e : Int) (w : World) :
    Calls Tryz.prog 68 #[.agg #[.int .i64 a, .int .i64 b, .int .i64 c, .int .i64 d, .int .i64 e]] w fun e' w' => e' = .returned (.bool (jobB a b c d e)) ∧ Below w.heap.size w w' := by
  go_enter Tryz.func68, Tryz.ntmps68
  go_wp2_with ((go_at_call 60; refine (l1In_any _ _ _ _).mono ?_; rintro e w' ⟨rfl, rfl⟩))
  all_goals (go_ret; unfold jobB; exact ⟨by simp [*], (Below.refl _ _).alloc (Nat.le_refl _) _⟩)
end Go.Proofs.YtokklkmibjpjnaaGreat
namespace Go.Proofs.YtokklkmibjpjnaaGreat
set_option linter.unusedSimpArgs false
set_option linter.unusedVariables false
attribute [local go_sem] n_lt2 n_lt3 n_lt4 n_le2 n_le3
open Go.RowKit

structure Jb where
  i : Int
  d : Int
  k : Int
  v : Int
  f : Int
instance : Inhabited Jb := ⟨⟨0, 0, 0, 0, 0⟩⟩
/-- A job list, its numbers one behind the other. -/
def JB (l : List Jb) : List Int := l.flatMap fun j => [j.i, j.d, j.k, j.v, j.f]
theorem JB_len (l : List Jb) : (JB l).length = l.length * 5 := flat_len _ 5 l (fun _ _ => rfl)
theorem JB_get (l : List Jb) (i j : Nat) (h : i < l.length) (hj : j < 5) : (JB l).getD (i * 5 + j) 0 = [(l.getD i default).i, (l.getD i default).d, (l.getD i default).k, (l.getD i default).v, (l.getD i default).f].getD j 0 := by
  have := flat_getD (fun j : Jb => [j.i, j.d, j.k, j.v, j.f]) 5 l (fun _ _ => rfl) i j h hj
  have e : l.getD i default = l[i] := by simp [List.getD, h]
  rw [e]
  exact this
theorem JB_of : ∀ (n : Nat) (zs : List Int), zs.length = n * 5 → ∃ l : List Jb, l.length = n ∧ JB l = zs
  | 0, zs, h => ⟨[], rfl, by simpa [JB] using (List.eq_nil_of_length_eq_zero (by omega)).symm⟩
  | n + 1, a :: b :: c :: d :: e :: zs, h => by
    obtain ⟨l, hl, he⟩ := JB_of n zs (by simp at h; omega)
    exact ⟨⟨a, b, c, d, e⟩ :: l, by simp [hl], by rw [← he]; rfl⟩
  | n + 1, [], h => by simp at h
  | n + 1, [_], h => by simp at h; omega
  | n + 1, [_, _], h => by simp at h; omega
  | n + 1, [_, _, _], h => by simp at h; omega
  | n + 1, [_, _, _, _], h => by simp at h; omega
theorem sl_jobs {w : World} {A : Option Addr} {n : Nat} {l : List Jb} (h : Sl w 5 A n (JB l)) (hn : 0 < n) : ∃ b off, A = some ⟨b, off, none⟩ ∧ b < w.heap.size ∧
    ∀ i, i < n → w.cell? ⟨b, off + i * 5, none⟩ = some (.int .i64 (l.getD i default).i) ∧ w.cell? ⟨b, off + i * 5 + 1, none⟩ = some (.int .i64 (l.getD i default).d) ∧ w.cell? ⟨b, off + i * 5 + 2, none⟩ = some (.int .i64 (l.getD i default).k) ∧ w.cell? ⟨b, off + i * 5 + 3, none⟩ = some (.int .i64 (l.getD i default).v) ∧ w.cell? ⟨b, off + i * 5 + 4, none⟩ = some (.int .i64 (l.getD i default).f) := by
  have hl : l.length = n := by
    have := h.len
    rw [JB_len] at this
    omega
  obtain ⟨b, off, hA, hb, hc⟩ := h.at_ hn
  have hg : ∀ i, i < n → ∀ j, j < 5 → w.cell? ⟨b, off + i * 5 + j, none⟩ = some (.int .i64 ([(l.getD i default).i, (l.getD i default).d, (l.getD i default).k, (l.getD i default).v, (l.getD i default).f].getD j 0)) := fun i hi j hj => by
    rw [Nat.add_assoc, hc (i * 5 + j) (by omega), JB_get l i j (by omega) hj]
  exact ⟨b, off, hA, hb, fun i hi => ⟨hg i hi 0 (by decide), hg i hi 1 (by decide), hg i hi 2 (by decide), hg i hi 3 (by decide), hg i hi 4 (by decide)⟩⟩

def jobOkB (j : Jb) : Bool := jobB j.i j.d j.k j.v j.f
def firedBefore (l : List Jb) (i : Nat) (x : Int) : Bool := (List.range i).any (fun k => decide ((l.getD k default).f = x))
def jobAtB (l : List Jb) (i : Nat) : Bool := jobOkB (l.getD i default) && ((decide (i = 0) || decide ((l.getD (i-1) default).i < (l.getD i default).i)) && !(decide (0 < (l.getD i default).f) && firedBefore l i (l.getD i default).f))
def jobsB (l : List Jb) : Bool := decide (l.length ≤ 8) && (List.range l.length).all (jobAtB l)
theorem jobsB_true {l : List Jb} (h8 : l.length ≤ 8) (h : ∀ j, j < l.length → jobAtB l j = true) : jobsB l = true := by
  unfold jobsB; rw [all_range_true h]; simpa using h8
theorem jobsB_false {l : List Jb} {k : Nat} (hk : k < l.length) (h : jobAtB l k = false) : jobsB l = false := by
  unfold jobsB; rw [all_range_false hk h]; simp
theorem jobsB_long {l : List Jb} (h : 8 < l.length) : jobsB l = false := by
  unfold jobsB; simp; intro h'; omega
theorem jobsB_all {l : List Jb} (h : jobsB l = true) : l.length ≤ 8 ∧ ∀ j, j < l.length → jobAtB l j = true := by
  unfold jobsB at h
  simp only [Bool.and_eq_true, decide_eq_true_eq, List.all_eq_true] at h
  exact ⟨h.1, fun j hj => h.2 j (List.mem_range.2 hj)⟩
theorem firedBefore_false {l : List Jb} {i : Nat} {x : Int} (h : ∀ j, j < i → (l.getD j default).f ≠ x) : firedBefore l i x = false := by
  unfold firedBefore
  rw [List.any_eq_false]
  intro j hj
  simpa using h j (List.mem_range.1 hj)
theorem firedBefore_true {l : List Jb} {i j : Nat} {x : Int} (hj : j < i) (h : (l.getD j default).f = x) : firedBefore l i x = true := by
  unfold firedBefore
  rw [List.any_eq_true]
  exact ⟨j, List.mem_range.2 hj, by simpa using h⟩
theorem jobAtB_1 {l : List Jb} {i : Nat} (h : jobOkB (l.getD i default) = false) : jobAtB l i = false := by unfold jobAtB; rw [h]; rfl
theorem jobAtB_2 {l : List Jb} {i : Nat} (h0 : 0 < i) (h : (l.getD i default).i ≤ (l.getD (i-1) default).i) : jobAtB l i = false := by
  unfold jobAtB
  rw [show decide (i = 0) = false from decide_eq_false (by omega), show decide ((l.getD (i-1) default).i < (l.getD i default).i) = false from decide_eq_false (by omega)]
  simp
theorem jobAtB_3 {l : List Jb} {i : Nat} (h0 : 0 < (l.getD i default).f) (h : firedBefore l i (l.getD i default).f = true) : jobAtB l i = false := by
  unfold jobAtB
  rw [h, show decide (0 < (l.getD i default).f) = true by simpa using h0]
  simp
theorem jobAtB_4 {l : List Jb} {i : Nat} (h1 : jobOkB (l.getD i default) = true) (h2 : i = 0 ∨ (l.getD (i-1) default).i < (l.getD i default).i) (h3 : (l.getD i default).f ≤ 0 ∨ firedBefore l i (l.getD i default).f = false) : jobAtB l i = true := by
  unfold jobAtB
  rw [h1]
  have e2 : (decide (i = 0) || decide ((l.getD (i-1) default).i < (l.getD i default).i)) = true := by simpa using h2
  rw [e2]
  rcases h3 with h3 | h3
  · rw [show decide (0 < (l.getD i default).f) = false from decide_eq_false (by omega)]; rfl
  · rw [h3]; simp
theorem jobB_fired {a b c d e : Int} (h : jobB a b c d e = true) : 0 ≤ e ∧ e ≤ 2000 := by
  unfold jobB at h
  simp only [Bool.and_eq_true, inB_iff] at h
  omega
attribute [local go_sem] Ext.cell Ext.frozen

set_option maxHeartbeats 2000000 in
theorem specJobsOk_any (A : Option Addr) (n cap : Nat) (l : List Jb) (w : World) (hS : Sl w 5 A n (JB l)) (hl : l.length = n) (hn : n ≤ maxLen) :
    Calls Tryz.prog 63 #[.slice A n cap] w fun e' w' => e' = .returned (.bool (jobsB l)) ∧ Below w.heap.size w w' := by
  unfold maxLen at hn
  by_cases h8 : 8 < n
  · have hv : jobsB l = false := jobsB_long (by omega)
    have h8' : (8 : Int) < (n : Int) := by omega
    clear hS hl
    go_enter Tryz.func63, Tryz.ntmps63
    go_wp2
    go_ret
    exact ⟨ret_bool hv.symm, Below.refl _ _⟩
  have h8' : (n : Int) ≤ 8 := by omega
  have hL := Lib.hid hl
  have HS := Lib.hid hS
  clear hl hS h8
  go_enter Tryz.func63, Tryz.ntmps63
  go_wp2
  go_loopw [3, 4] (fun i _ wr => ∃ k : Nat, k ≤ n ∧ i = .int .i64 k ∧ Below w.heap.size w wr ∧ Hid (∀ j, j < k → jobAtB l j = true)) (fun i _ _ => n - (intOf i).toNat)
  case atStart => exact ⟨0, Nat.zero_le _, rfl, Below.refl _ _, fun j hj => absurd hj (by omega)⟩
  case round =>
    obtain ⟨k, hk, rfl, hbl, hall⟩ := hrel
    by_cases hlt : k < n
    · obtain ⟨b, off, rfl, hb, hcell⟩ := sl_jobs HS.out (by omega)
      have HC := Lib.hid hcell
      obtain ⟨h0, h1, h2, h3, h4⟩ := hcell k hlt
      have g0 := (hcell (k - 1) (by omega)).1
      clear hcell
      rw [← hbl.cell (by exact hb)] at h0 h1 h2 h3 h4 g0
      generalize hp : l.getD k default = p at h0 h1 h2 h3 h4
      generalize hp0 : l.getD (k - 1) default = p0 at g0
      obtain ⟨x0, x1, x2, x3, x4⟩ := p
      obtain ⟨y0, y1, y2, y3, y4⟩ := p0
      simp only at h0 h1 h2 h3 h4 g0
      have HP := Lib.hid (And.intro hp hp0)
      clear hp hp0
      have hbr : b < wr.heap.size := Nat.lt_of_lt_of_le hb hbl.size
      by_cases hj : jobB x0 x1 x2 x3 x4 = true
      · have hC : ∀ w0, Calls Tryz.prog 68 #[.agg #[.int .i64 x0, .int .i64 x1, .int .i64 x2, .int .i64 x3, .int .i64 x4]] w0 fun e' w' => e' = .returned (.bool true) ∧ Below w0.heap.size w0 w' := fun w0 => by
          have := specJobOk_any x0 x1 x2 x3 x4 w0
          rwa [hj] at this
        have HJ := Lib.hid hj
        clear hj
        by_cases hbad : 0 < k ∧ x0 ≤ y0
        · obtain ⟨hk0, hxy⟩ := hbad
          have hk0' : (0 : Int) < (k : Int) := by omega
          go_wp2
          ((refine wp_region_ext (by kernel_rfl) (by kernel_rfl) ?_); (repeat (any_goals (first | go_big_quiet_step ((go_at_call 68; exact quiet_ext (hC _))) | (refine wpQuiet_step (fun K hK => ?_); go_simp; split <;> (refine hK _ ?_; clear hK K)) | quiet_step ((go_at_call 68; exact quiet_ext (hC _)))))); (all_goals (refine wpQuiet_nil ?_; rintro _ ⟨z, rfl⟩; have hb' := z.h; generalize z.w = w1 at hb' ⊢; clear z; (first | (have hb2 := bstep hb' hb hb.size; clear hb' hcb hfb hz1 hz2 hz3 hz4 hb; have hb := hb2; clear hb2) | (have hb := hb'; clear hb')); obtain ⟨hcb, hfb, hz1, hz2, hz3, hz4⟩ := bcell hb; (try simp only [World.size_alloc, World.size_setCell, World.size_drew, Nat.lt_add_one_iff, Nat.add_assoc, Nat.reduceAdd] at hz1 hz2 hz3 hz4))))
          all_goals go_wp2
          all_goals go_ret
          all_goals exact ⟨ret_bool (jobsB_false (hL.out.symm ▸ hlt) (jobAtB_2 hk0 (by rw [HP.out.1, HP.out.2]; exact hxy))).symm, bstep hb hbl hbl.size⟩
        · have hgood : k = 0 ∨ y0 < x0 := by omega
          have hgz : (0 : Int) < (k : Int) → y0 < x0 := fun h => by omega
          have hbw : b < w.heap.size := hb
          rcases Nat.eq_zero_or_pos k with hk0 | hk0
          · have hk0' : ¬ (0 : Int) < (k : Int) := by omega
            have HK := Lib.hid hk0
            have HG := Lib.hid hgood
            clear hk0 hbad hgood
            go_wp2
            ((refine wp_region_ext (by kernel_rfl) (by kernel_rfl) ?_); (repeat (any_goals (first | go_big_quiet_step ((go_at_call 68; exact quiet_ext (hC _))) | (refine wpQuiet_step (fun K hK => ?_); go_simp; split <;> (refine hK _ ?_; clear hK K)) | quiet_step ((go_at_call 68; exact quiet_ext (hC _)))))); (all_goals (refine wpQuiet_nil ?_; rintro _ ⟨z, rfl⟩; have hb' := z.h; generalize z.w = w1 at hb' ⊢; clear z; (first | (have hb2 := bstep hb' hb hb.size; clear hb' hcb hfb hz1 hz2 hz3 hz4 hb; have hb := hb2; clear hb2) | (have hb := hb'; clear hb')); obtain ⟨hcb, hfb, hz1, hz2, hz3, hz4⟩ := bcell hb; (try simp only [World.size_alloc, World.size_setCell, World.size_drew, Nat.lt_add_one_iff, Nat.add_assoc, Nat.reduceAdd] at hz1 hz2 hz3 hz4))))
            all_goals go_wp2
            have hb1 : Below w.heap.size w w1 := bstep hb hbl hbl.size
            clear h0 h1 h2 h3 h4 g0 hbr
            go_loopw [4] (fun i wq => ∃ m : Nat, m ≤ k ∧ i = .int .i64 m ∧ Below w.heap.size w wq ∧ Hid (∀ j, j < m → x4 ≤ 0 ∨ (l.getD j default).f ≠ x4)) (fun i _ => k - (intOf i).toNat)
            case atStart => exact ⟨0, Nat.zero_le _, rfl, hb1, Lib.hid (fun j hj => absurd hj (by omega))⟩
            case round =>
              obtain ⟨m, hm, rfl, hbq, hmm⟩ := hrel
              by_cases hmk : m < k
              · have e4 : wr.cell? ⟨b, off + k * 5 + 4, none⟩ = some (.int .i64 x4) := by rw [hbq.cell (by exact hbw), (HC.out k hlt).2.2.2.2, HP.out.1]
                have em : wr.cell? ⟨b, off + m * 5 + 4, none⟩ = some (.int .i64 (l.getD m default).f) := by rw [hbq.cell (by exact hbw), (HC.out m (by omega)).2.2.2.2]
                generalize hfm : (l.getD m default).f = fm at em
                have HF := Lib.hid hfm
                clear hfm
                have hbr : b < wr.heap.size := Nat.lt_of_lt_of_le hbw hbq.size
                have hmn : m < n := by omega
                by_cases hx4 : 0 < x4
                · by_cases hfx : fm = x4
                  · have hfx' : (fm == x4) = true := by simpa using hfx
                    go_wp2
                    ((refine wp_region_ext (by kernel_rfl) (by kernel_rfl) ?_); (repeat (any_goals (first | go_big_quiet_step (fail) | (refine wpQuiet_step (fun K hK => ?_); go_simp; split <;> (refine hK _ ?_; clear hK K)) | quiet_step (fail)))); (all_goals (refine wpQuiet_nil ?_; rintro _ ⟨z, rfl⟩; have hb' := z.h; generalize z.w = w1 at hb' ⊢; clear z; (first | (have hb2 := bstep hb' hb hb.size; clear hb' hcb hfb hz1 hz2 hz3 hz4 hb; have hb := hb2; clear hb2) | (have hb := hb'; clear hb')); obtain ⟨hcb, hfb, hz1, hz2, hz3, hz4⟩ := bcell hb; (try simp only [World.size_alloc, World.size_setCell, World.size_drew, Nat.lt_add_one_iff, Nat.add_assoc, Nat.reduceAdd] at hz1 hz2 hz3 hz4))))
                    all_goals go_wp2
                    all_goals go_ret
                    all_goals exact ⟨ret_bool (jobsB_false (hL.out.symm ▸ hlt) (jobAtB_3 (by rw [HP.out.1]; exact hx4) (by rw [HP.out.1]; exact firedBefore_true hmk (by rw [HF.out]; exact hfx)))).symm, bstep hb hbq hbq.size⟩
                  · have hfx' : (fm == x4) = false := by simpa using hfx
                    go_wp2
                    ((refine wp_region_ext (by kernel_rfl) (by kernel_rfl) ?_); (repeat (any_goals (first | go_big_quiet_step (fail) | (refine wpQuiet_step (fun K hK => ?_); go_simp; split <;> (refine hK _ ?_; clear hK K)) | quiet_step (fail)))); (all_goals (refine wpQuiet_nil ?_; rintro _ ⟨z, rfl⟩; have hb' := z.h; generalize z.w = w1 at hb' ⊢; clear z; (first | (have hb2 := bstep hb' hb hb.size; clear hb' hcb hfb hz1 hz2 hz3 hz4 hb; have hb := hb2; clear hb2) | (have hb := hb'; clear hb')); obtain ⟨hcb, hfb, hz1, hz2, hz3, hz4⟩ := bcell hb; (try simp only [World.size_alloc, World.size_setCell, World.size_drew, Nat.lt_add_one_iff, Nat.add_assoc, Nat.reduceAdd] at hz1 hz2 hz3 hz4))))
                    all_goals go_wp2
                    all_goals exact ⟨⟨m + 1, by omega, by go_num, bstep hb hbq hbq.size, Lib.hid (fun j hj => by
                      rcases Nat.lt_or_ge j m with h1 | h1
                      · exact hmm.out j h1
                      · obtain rfl : j = m := by omega
                        exact .inr (by rw [HF.out]; exact hfx))⟩, by simp [intOf]; omega⟩
                · have hx4' : x4 ≤ 0 := by omega
                  clear hx4
                  go_wp2
                  ((refine wp_region_ext (by kernel_rfl) (by kernel_rfl) ?_); (repeat (any_goals (first | go_big_quiet_step (fail) | (refine wpQuiet_step (fun K hK => ?_); go_simp; split <;> (refine hK _ ?_; clear hK K)) | quiet_step (fail)))); (all_goals (refine wpQuiet_nil ?_; rintro _ ⟨z, rfl⟩; have hb' := z.h; generalize z.w = w1 at hb' ⊢; clear z; (first | (have hb2 := bstep hb' hb hb.size; clear hb' hcb hfb hz1 hz2 hz3 hz4 hb; have hb := hb2; clear hb2) | (have hb := hb'; clear hb')); obtain ⟨hcb, hfb, hz1, hz2, hz3, hz4⟩ := bcell hb; (try simp only [World.size_alloc, World.size_setCell, World.size_drew, Nat.lt_add_one_iff, Nat.add_assoc, Nat.reduceAdd] at hz1 hz2 hz3 hz4))))
                  all_goals go_wp2
                  all_goals exact ⟨⟨m + 1, by omega, by go_num, bstep hb hbq hbq.size, Lib.hid (fun j hj => .inl hx4')⟩, by simp [intOf]; omega⟩
              · have hmk' : m = k := by omega
                subst hmk'
                go_wp2
                refine ⟨⟨m + 1, by omega, by go_num, hbq, upto_succ hall.out (jobAtB_4 (by rw [HP.out.1]; exact HJ.out) (by rw [HP.out.1, HP.out.2]; exact HG.out) ?_)⟩, by simp [intOf]; omega⟩
                rw [HP.out.1]
                by_cases hx4 : x4 ≤ 0
                · exact .inl hx4
                · exact .inr (firedBefore_false fun j hj => (hmm.out j hj).resolve_left hx4)
          · have hk0' : (0 : Int) < (k : Int) := by omega
            have hxy : y0 < x0 := by omega
            have hd : decide (x0 ≤ y0) = false := decide_eq_false (by omega)
            have HG := Lib.hid hgood
            clear hbad hgood
            go_wp2
            ((refine wp_region_ext (by kernel_rfl) (by kernel_rfl) ?_); (repeat (any_goals (first | go_big_quiet_step ((go_at_call 68; exact quiet_ext (hC _))) | (refine wpQuiet_step (fun K hK => ?_); go_simp; split <;> (refine hK _ ?_; clear hK K)) | quiet_step ((go_at_call 68; exact quiet_ext (hC _)))))); (all_goals (refine wpQuiet_nil ?_; rintro _ ⟨z, rfl⟩; have hb' := z.h; generalize z.w = w1 at hb' ⊢; clear z; (first | (have hb2 := bstep hb' hb hb.size; clear hb' hcb hfb hz1 hz2 hz3 hz4 hb; have hb := hb2; clear hb2) | (have hb := hb'; clear hb')); obtain ⟨hcb, hfb, hz1, hz2, hz3, hz4⟩ := bcell hb; (try simp only [World.size_alloc, World.size_setCell, World.size_drew, Nat.lt_add_one_iff, Nat.add_assoc, Nat.reduceAdd] at hz1 hz2 hz3 hz4))))
            all_goals go_wp2
            have hb1 : Below w.heap.size w w1 := bstep hb hbl hbl.size
            clear h0 h1 h2 h3 h4 g0 hbr
            go_loopw [4] (fun i wq => ∃ m : Nat, m ≤ k ∧ i = .int .i64 m ∧ Below w.heap.size w wq ∧ Hid (∀ j, j < m → x4 ≤ 0 ∨ (l.getD j default).f ≠ x4)) (fun i _ => k - (intOf i).toNat)
            case atStart => exact ⟨0, Nat.zero_le _, rfl, hb1, Lib.hid (fun j hj => absurd hj (by omega))⟩
            case round =>
              obtain ⟨m, hm, rfl, hbq, hmm⟩ := hrel
              by_cases hmk : m < k
              · have e4 : wr.cell? ⟨b, off + k * 5 + 4, none⟩ = some (.int .i64 x4) := by rw [hbq.cell (by exact hbw), (HC.out k hlt).2.2.2.2, HP.out.1]
                have em : wr.cell? ⟨b, off + m * 5 + 4, none⟩ = some (.int .i64 (l.getD m default).f) := by rw [hbq.cell (by exact hbw), (HC.out m (by omega)).2.2.2.2]
                generalize hfm : (l.getD m default).f = fm at em
                have HF := Lib.hid hfm
                clear hfm
                have hbr : b < wr.heap.size := Nat.lt_of_lt_of_le hbw hbq.size
                have hmn : m < n := by omega
                by_cases hx4 : 0 < x4
                · by_cases hfx : fm = x4
                  · have hfx' : (fm == x4) = true := by simpa using hfx
                    go_wp2
                    ((refine wp_region_ext (by kernel_rfl) (by kernel_rfl) ?_); (repeat (any_goals (first | go_big_quiet_step (fail) | (refine wpQuiet_step (fun K hK => ?_); go_simp; split <;> (refine hK _ ?_; clear hK K)) | quiet_step (fail)))); (all_goals (refine wpQuiet_nil ?_; rintro _ ⟨z, rfl⟩; have hb' := z.h; generalize z.w = w1 at hb' ⊢; clear z; (first | (have hb2 := bstep hb' hb hb.size; clear hb' hcb hfb hz1 hz2 hz3 hz4 hb; have hb := hb2; clear hb2) | (have hb := hb'; clear hb')); obtain ⟨hcb, hfb, hz1, hz2, hz3, hz4⟩ := bcell hb; (try simp only [World.size_alloc, World.size_setCell, World.size_drew, Nat.lt_add_one_iff, Nat.add_assoc, Nat.reduceAdd] at hz1 hz2 hz3 hz4))))
                    all_goals go_wp2
                    all_goals go_ret
                    all_goals exact ⟨ret_bool (jobsB_false (hL.out.symm ▸ hlt) (jobAtB_3 (by rw [HP.out.1]; exact hx4) (by rw [HP.out.1]; exact firedBefore_true hmk (by rw [HF.out]; exact hfx)))).symm, bstep hb hbq hbq.size⟩
                  · have hfx' : (fm == x4) = false := by simpa using hfx
                    go_wp2
                    ((refine wp_region_ext (by kernel_rfl) (by kernel_rfl) ?_); (repeat (any_goals (first | go_big_quiet_step (fail) | (refine wpQuiet_step (fun K hK => ?_); go_simp; split <;> (refine hK _ ?_; clear hK K)) | quiet_step (fail)))); (all_goals (refine wpQuiet_nil ?_; rintro _ ⟨z, rfl⟩; have hb' := z.h; generalize z.w = w1 at hb' ⊢; clear z; (first | (have hb2 := bstep hb' hb hb.size; clear hb' hcb hfb hz1 hz2 hz3 hz4 hb; have hb := hb2; clear hb2) | (have hb := hb'; clear hb')); obtain ⟨hcb, hfb, hz1, hz2, hz3, hz4⟩ := bcell hb; (try simp only [World.size_alloc, World.size_setCell, World.size_drew, Nat.lt_add_one_iff, Nat.add_assoc, Nat.reduceAdd] at hz1 hz2 hz3 hz4))))
                    all_goals go_wp2
                    all_goals exact ⟨⟨m + 1, by omega, by go_num, bstep hb hbq hbq.size, Lib.hid (fun j hj => by
                      rcases Nat.lt_or_ge j m with h1 | h1
                      · exact hmm.out j h1
                      · obtain rfl : j = m := by omega
                        exact .inr (by rw [HF.out]; exact hfx))⟩, by simp [intOf]; omega⟩
                · have hx4' : x4 ≤ 0 := by omega
                  clear hx4
                  go_wp2
                  ((refine wp_region_ext (by kernel_rfl) (by kernel_rfl) ?_); (repeat (any_goals (first | go_big_quiet_step (fail) | (refine wpQuiet_step (fun K hK => ?_); go_simp; split <;> (refine hK _ ?_; clear hK K)) | quiet_step (fail)))); (all_goals (refine wpQuiet_nil ?_; rintro _ ⟨z, rfl⟩; have hb' := z.h; generalize z.w = w1 at hb' ⊢; clear z; (first | (have hb2 := bstep hb' hb hb.size; clear hb' hcb hfb hz1 hz2 hz3 hz4 hb; have hb := hb2; clear hb2) | (have hb := hb'; clear hb')); obtain ⟨hcb, hfb, hz1, hz2, hz3, hz4⟩ := bcell hb; (try simp only [World.size_alloc, World.size_setCell, World.size_drew, Nat.lt_add_one_iff, Nat.add_assoc, Nat.reduceAdd] at hz1 hz2 hz3 hz4))))
                  all_goals go_wp2
                  all_goals exact ⟨⟨m + 1, by omega, by go_num, bstep hb hbq hbq.size, Lib.hid (fun j hj => .inl hx4')⟩, by simp [intOf]; omega⟩
              · have hmk' : m = k := by omega
                subst hmk'
                go_wp2
                refine ⟨⟨m + 1, by omega, by go_num, hbq, upto_succ hall.out (jobAtB_4 (by rw [HP.out.1]; exact HJ.out) (by rw [HP.out.1, HP.out.2]; exact HG.out) ?_)⟩, by simp [intOf]; omega⟩
                rw [HP.out.1]
                by_cases hx4 : x4 ≤ 0
                · exact .inl hx4
                · exact .inr (firedBefore_false fun j hj => (hmm.out j hj).resolve_left hx4)
      · have hj' : jobB x0 x1 x2 x3 x4 = false := by simpa using hj
        have hC : ∀ w0, Calls Tryz.prog 68 #[.agg #[.int .i64 x0, .int .i64 x1, .int .i64 x2, .int .i64 x3, .int .i64 x4]] w0 fun e' w' => e' = .returned (.bool false) ∧ Below w0.heap.size w0 w' := fun w0 => by
          have := specJobOk_any x0 x1 x2 x3 x4 w0
          rwa [hj'] at this
        have HJ := Lib.hid hj'
        clear hj hj'
        go_wp2
        ((refine wp_region_ext (by kernel_rfl) (by kernel_rfl) ?_); (repeat (any_goals (first | go_big_quiet_step ((go_at_call 68; exact quiet_ext (hC _))) | (refine wpQuiet_step (fun K hK => ?_); go_simp; split <;> (refine hK _ ?_; clear hK K)) | quiet_step ((go_at_call 68; exact quiet_ext (hC _)))))); (all_goals (refine wpQuiet_nil ?_; rintro _ ⟨z, rfl⟩; have hb' := z.h; generalize z.w = w1 at hb' ⊢; clear z; (first | (have hb2 := bstep hb' hb hb.size; clear hb' hcb hfb hz1 hz2 hz3 hz4 hb; have hb := hb2; clear hb2) | (have hb := hb'; clear hb')); obtain ⟨hcb, hfb, hz1, hz2, hz3, hz4⟩ := bcell hb; (try simp only [World.size_alloc, World.size_setCell, World.size_drew, Nat.lt_add_one_iff, Nat.add_assoc, Nat.reduceAdd] at hz1 hz2 hz3 hz4))))
        all_goals go_wp2
        all_goals go_ret
        all_goals exact ⟨ret_bool (jobsB_false (hL.out.symm ▸ hlt) (jobAtB_1 (by rw [HP.out.1]; exact HJ.out))).symm, bstep hb hbl hbl.size⟩
    · have hkn : k = n := by omega
      subst hkn
      go_wp2
      go_ret
      exact ⟨ret_bool (jobsB_true (by have := hL.out; omega) (hL.out.symm ▸ hall.out)).symm, hbl⟩
end Go.Proofs.YtokklkmibjpjnaaGreat
namespace Go.Proofs.YtokklkmibjpjnaaGreat
set_option linter.unusedSimpArgs false
set_option linter.unusedVariables false
attribute [local go_sem] n_lt2 n_lt3 n_lt4 n_le2 n_le3
open Go.RowKit Go.Maps Go.WideShapes

theorem ownsMap_below {P : Program} {k : TypeId} {R : Value → Option (DataW Unit × List MemPlace)} {w w' : World} {b n : Nat} {D : DataW Unit} (h : w.ownsMap P k R b n D) (hb : Below w.heap.size w w') : w'.ownsMap P k R b n D := by
  have hlt := h.lt
  obtain ⟨es, clock, hbk, F, hs, hD⟩ := h
  exact ⟨es, clock, (hb.block b hlt).trans hbk, F, hs, hD⟩
theorem plainElem_bool_inv {P : Program} {e : TypeId} (he : P.underlying e = some .bool) {v : Value} {z : DataW Unit × List MemPlace} (h : plainElem P e v = some z) : ∃ u, v = .bool u ∧ z = (.lit (.bool u), []) := by
  unfold plainElem at h
  rw [he] at h
  cases v <;> simp at h
  exact ⟨_, rfl, h.symm⟩

/-- Block b is a map from int64 to bool; what it holds at x is 'u x'. -/
def Marked (P : Program) (K E : TypeId) (w : World) (b n : Nat) (u : Int → Bool) : Prop :=
  ∃ D : DataW Unit, w.ownsMap P K (plainElem P E) b n D ∧ ∀ x, D.atKey (.int .i64 x) (.lit (.bool false)) = .lit (.bool (u x))
theorem Marked.made (w : World) (P : Program) (K E : TypeId) : Marked P K E (w.alloc (.map #[] 0)) w.heap.size 0 (fun _ => false) :=
  ⟨_, World.ownsMap_made w P K _, fun _ => rfl⟩
theorem Marked.lt {P : Program} {K E : TypeId} {w : World} {b n : Nat} {u : Int → Bool} (h : Marked P K E w b n u) : b < w.heap.size := by
  obtain ⟨D, hD, _⟩ := h
  exact hD.lt
theorem Marked.below {P : Program} {K E : TypeId} {w w' : World} {b n : Nat} {u : Int → Bool} (h : Marked P K E w b n u) (hb : Below w.heap.size w w') : Marked P K E w' b n u := by
  obtain ⟨D, hD, ha⟩ := h
  exact ⟨D, ownsMap_below hD hb, ha⟩
theorem wf_small {x : Int} (hx : 0 ≤ x ∧ x ≤ 2000) : (Lit.int .i64 x).wf = true := by
  simp only [Lit.wf, Bool.and_eq_true, decide_eq_true_eq]
  exact ⟨Int.le_trans (show IntKind.min .i64 ≤ 0 by decide) hx.1, Int.le_trans hx.2 (show (2000 : Int) ≤ IntKind.max .i64 by decide)⟩
theorem Marked.look {P : Program} {K E t : TypeId} {w : World} {b n : Nat} {u : Int → Bool} (h : Marked P K E w b n u) (hK : P.underlying K = some (.int .i64)) (hE : P.underlying E = some .bool) (ht : P.underlying t = some (.map K E))
    (hz : (zeroValue E).run P w = .ok (.bool false) w) {x : Int} (hx : 0 ≤ x ∧ x ≤ 2000) : (Instr.lookup t (.map (some b)) (.int .i64 x) false).run P w = .ok (.bool (u x)) w := by
  obtain ⟨D, hD, ha⟩ := h
  obtain ⟨v, ps, hrun, hv⟩ := hD.lookup (int_keyed hK) ht hz (plainElem_bool hE false) (keyOf_int_mk hK (wf_small hx))
  obtain ⟨c, rfl, hc⟩ := plainElem_bool_inv hE hv
  rw [ha x] at hc
  simp only [Prod.mk.injEq, DataW.lit.injEq, Lit.bool.injEq] at hc
  rw [hrun, hc.1]
theorem wpList_mark {P : Program} {w : World} {ops : Array Oper} {rest : List Oper} {o : Oper} {a : Act} {Q : Exit → Act → World → Prop} (hg : o.guard = none) (m x v : Operand) (t : TypeId) (hop : o.op = Op.mapUpdate t m x v)
    (K E : TypeId) (hK : P.underlying K = some (.int .i64)) (hE : P.underlying E = some .bool) (ht : P.underlying t = some (.map K E)) (b n : Nat) (u : Int → Bool)
    (hm : a.eval m = .map (some b)) (hown : Marked P K E w b n u) (hn : n < maxLen) (y : Int) (hy : 0 ≤ y ∧ y ≤ 2000) (hx : a.eval x = .int .i64 y) (hv : a.eval v = .bool true)
    (h : ∀ w', Marked P K E w' b (n + 1) (fun z => u z || decide (y = z)) → w.grownBy w' (some b) → wpList P ops Q rest (a.put o.dst undef) w') :
    wpList P ops Q (o :: rest) a w := by
  obtain ⟨D, hD, ha⟩ := hown
  refine wpList_mapUpdate_own _ hg m x v t hop K E (int_keyed hK) ht (plainElem P E) b n D hm hD hn (.int .i64 y) (.bool true) (.int .i64 y) hx hv (keyOf_int_mk hK (wf_small hy)) (.lit (.bool true)) [] (plainElem_bool hE true) ?_
  intro w' hD' hg'
  refine h w' ⟨_, hD', fun z => ?_⟩ hg'
  by_cases hz : y = z
  · subst hz
    rw [atKey_put_same hD.isMap (by trivial)]
    simp
  · rw [atKey_put_other (by intro h'; injection h' with _ h2; exact hz h2.symm), ha z]
    simp [hz]
theorem wp_named {P : Program} {c : Code} {Q : Exit → Act → World → Prop} {a : Act} {w : World} (h : ∀ w', w' = w → Code.wp P c Q a w') : Code.wp P c Q a w := h w rfl
end Go.Proofs.YtokklkmibjpjnaaGreat
namespace Go.Proofs.YtokklkmibjpjnaaGreat
set_option linter.unusedSimpArgs false
set_option linter.unusedVariables false
attribute [local go_sem] n_lt2 n_lt3 n_lt4 n_le2 n_le3
open Go.RowKit
theorem firedBefore_succ (l : List Jb) (k : Nat) (x : Int) : firedBefore l (k + 1) x = (firedBefore l k x || decide ((l.getD k default).f = x)) := by
  unfold firedBefore
  rw [List.range_succ, List.any_append]
  simp
attribute [local go_sem] Ext.cell Ext.frozen

theorem closed_any (a b c d e : Int) (w : World) :
    Calls Tryz.prog 91 #[.agg #[.int .i64 a, .int .i64 b, .int .i64 c, .int .i64 d, .int .i64 e]] w fun e' w' => e' = .returned (.bool (!decide (e = 0))) ∧ Below w.heap.size w w' := by
  go_enter Tryz.func91, Tryz.ntmps91
  go_wp2
  go_ret
  exact ⟨ret_bool (by (first | rfl | (simp [*]; done) | (subst_vars; simp [*]; done) | (simp_all; done))), by (repeat' (first | (with_reducible exact Below.refl _ _) | (with_reducible assumption) | (with_reducible refine Below.alloc ?_ ?_ _) | (with_reducible refine Below.drew ?_) | (with_reducible refine Below.setCell ?_ ?_ _) | (with_reducible refine bstep (by assumption) ?_ ?_) | (with_reducible exact Nat.le_refl _) | omega | (simp [*]; done) | (simp [*]; omega)))⟩
theorem zeroB (w : World) : (zeroValue 4).run Tryz.prog w = .ok (.bool false) w := by kernel_rfl
set_option maxRecDepth 100000 in
set_option maxHeartbeats 4000000 in
theorem jobsOk_any (A : Option Addr) (n cap : Nat) (l : List Jb) (w : World) (hS : Sl w 5 A n (JB l)) (hl : l.length = n) (hn : n ≤ maxLen) :
    Calls Tryz.prog 77 #[.slice A n cap] w fun e' w' => e' = .returned (.bool (jobsB l)) ∧ Below w.heap.size w w' := by
  unfold maxLen at hn
  by_cases h8 : 8 < n
  · have hv : jobsB l = false := jobsB_long (by omega)
    have h8' : (8 : Int) < (n : Int) := by omega
    clear hS hl
    go_enter Tryz.func77, Tryz.ntmps77
    go_wp2
    go_ret
    exact ⟨ret_bool hv.symm, Below.refl _ _⟩
  have h8' : (n : Int) ≤ 8 := by omega
  have hL := Lib.hid hl
  have HS := Lib.hid hS
  clear hl hS h8
  have hmm := @run_makeMap Tryz.prog
  go_enter Tryz.func77, Tryz.ntmps77
  go_wp2
  go_loopw [12] (fun i wr => ∃ k : Nat, k ≤ n ∧ i = .int .i64 k ∧ Below w.heap.size w wr ∧ Hid (∀ j, j < k → jobAtB l j = true) ∧ Hid (Marked Tryz.prog 2 4 wr w.heap.size k (firedBefore l k))) (fun i _ => n - (intOf i).toNat)
  case atStart => exact ⟨0, Nat.zero_le _, rfl, (Below.refl _ _).alloc (Nat.le_refl _) _, Lib.hid (fun j hj => absurd hj (by omega)), Lib.hid (Marked.made w _ _ _)⟩
  case round =>
    obtain ⟨k, hk, rfl, hbl, hall, HU⟩ := hrel
    by_cases hlt : k < n
    · obtain ⟨b, off, rfl, hb, hcell⟩ := sl_jobs HS.out (by omega)
      obtain ⟨h0, h1, h2, h3, h4⟩ := hcell k hlt
      have g0 := (hcell (k - 1) (by omega)).1
      clear hcell
      rw [← hbl.cell (by exact hb)] at h0 h1 h2 h3 h4 g0
      generalize hp : l.getD k default = p at h0 h1 h2 h3 h4
      generalize hp0 : l.getD (k - 1) default = p0 at g0
      obtain ⟨x0, x1, x2, x3, x4⟩ := p
      obtain ⟨y0, y1, y2, y3, y4⟩ := p0
      simp only at h0 h1 h2 h3 h4 g0
      have HP := Lib.hid (And.intro hp hp0)
      clear hp hp0
      have hbr : b < wr.heap.size := Nat.lt_of_lt_of_le hb hbl.size
      have hB0 := Lib.hid (Nat.le_trans (Nat.le_succ _) (show w.heap.size + 1 ≤ wr.heap.size from HU.out.lt))
      by_cases hj : jobB x0 x1 x2 x3 x4 = true
      · have hC : ∀ w0, Calls Tryz.prog 90 #[.agg #[.int .i64 x0, .int .i64 x1, .int .i64 x2, .int .i64 x3, .int .i64 x4]] w0 fun e' w' => e' = .returned (.bool true) ∧ Below w0.heap.size w0 w' := fun w0 => by
          have := jobOk_any x0 x1 x2 x3 x4 w0
          rwa [hj] at this
        have HJ := Lib.hid hj
        clear hj
        by_cases hbad : 0 < k ∧ x0 ≤ y0
        · obtain ⟨hk0, hxy⟩ := hbad
          have hk0' : (0 : Int) < (k : Int) := by omega
          go_wp2
          ((refine wp_region_ext (by kernel_rfl) (by kernel_rfl) ?_); (repeat (any_goals (first | go_big_quiet_step ((go_at_call 90; exact quiet_ext (hC _))) | (refine wpQuiet_step (fun K hK => ?_); go_simp; split <;> (refine hK _ ?_; clear hK K)) | quiet_step ((go_at_call 90; exact quiet_ext (hC _)))))); (all_goals (refine wpQuiet_nil ?_; rintro _ ⟨z, rfl⟩; have hb' := z.h; generalize z.w = w1 at hb' ⊢; clear z; (first | (have hb2 := bstep hb' hb hb.size; clear hb' hcb hfb hz1 hz2 hz3 hz4 hb; have hb := hb2; clear hb2) | (have hb := hb'; clear hb')); obtain ⟨hcb, hfb, hz1, hz2, hz3, hz4⟩ := bcell hb; (try simp only [World.size_alloc, World.size_setCell, World.size_drew, Nat.lt_add_one_iff, Nat.add_assoc, Nat.reduceAdd] at hz1 hz2 hz3 hz4))))
          all_goals go_wp2
          all_goals go_ret
          all_goals exact ⟨ret_bool (jobsB_false (hL.out.symm ▸ hlt) (jobAtB_2 hk0 (by rw [HP.out.1, HP.out.2]; exact hxy))).symm, bstep hb (hbl.alloc hbl.size _) (by have := hbl.size; simp; omega)⟩
        · have HG := Lib.hid (show k = 0 ∨ y0 < x0 by omega)
          rcases Nat.eq_zero_or_pos k with hk0 | hk0
          · have hk0' : ¬ (0 : Int) < (k : Int) := by omega
            clear hk0 hbad
            by_cases hx : x4 = 0
            · have hx4 : (!decide (x4 = 0)) = false := by simpa using hx
              have hD : ∀ w0, Calls Tryz.prog 91 #[.agg #[.int .i64 x0, .int .i64 x1, .int .i64 x2, .int .i64 x3, .int .i64 x4]] w0 fun e' w' => e' = .returned (.bool false) ∧ Below w0.heap.size w0 w' := fun w0 => by
                have := closed_any x0 x1 x2 x3 x4 w0
                rwa [hx4] at this
              have hxl : x4 ≤ 0 := by omega
              clear hx
              go_wp2
              ((refine wp_region_ext (by kernel_rfl) (by kernel_rfl) ?_); (repeat (any_goals (first | go_big_quiet_step (first | (go_at_call 90; exact quiet_ext (hC _)) | (go_at_call 91; exact quiet_ext (hD _))) | (refine wpQuiet_step (fun K hK => ?_); go_simp; split <;> (refine hK _ ?_; clear hK K)) | quiet_step (first | (go_at_call 90; exact quiet_ext (hC _)) | (go_at_call 91; exact quiet_ext (hD _)))))); (all_goals (refine wpQuiet_nil ?_; rintro _ ⟨z, rfl⟩; have hb' := z.h; generalize z.w = w1 at hb' ⊢; clear z; (first | (have hb2 := bstep hb' hb hb.size; clear hb' hcb hfb hz1 hz2 hz3 hz4 hb; have hb := hb2; clear hb2) | (have hb := hb'; clear hb')); obtain ⟨hcb, hfb, hz1, hz2, hz3, hz4⟩ := bcell hb; (try simp only [World.size_alloc, World.size_setCell, World.size_drew, Nat.lt_add_one_iff, Nat.add_assoc, Nat.reduceAdd] at hz1 hz2 hz3 hz4))))
              all_goals try (exfalso; omega)
              have hfr : Below w.heap.size w w1 := bstep hb (hbl.alloc hbl.size _) (by have := hbl.size; simp; omega)
              have HM : Marked Tryz.prog 2 4 w1 w.heap.size k (firedBefore l k) := HU.out.below (((Below.refl _ wr).alloc (Nat.le_refl _) _).trans (hb.mono (by simp)))
              have hsz : w.heap.size ≤ w1.heap.size := hfr.size
              have hy := jobB_fired HJ.out
              go_wp2_with (at_mapUpdate; refine wpList_mark rfl _ _ _ 125 rfl 2 4 Tryz.underlying2 Tryz.underlying4 Tryz.underlying125 w.heap.size k (firedBefore l k) rfl HM (by unfold maxLen; omega) x4 hy rfl rfl ?_; intro w5 HM5 hg5)
              refine ⟨⟨k + 1, by omega, by go_num, hfr.grown hg5 hsz (fun k hk => by injection hk with hk; omega), Lib.hid (upto_succ hall.out (jobAtB_4 (by rw [HP.out.1]; exact HJ.out) (by rw [HP.out.1, HP.out.2]; exact HG.out) (by rw [HP.out.1]; exact .inl hxl))), Lib.hid (by
                have e : firedBefore l (k + 1) = fun z => firedBefore l k z || decide (x4 = z) := funext fun z => by rw [firedBefore_succ, HP.out.1]
                rw [e]
                exact HM5)⟩, by simp [intOf]; omega⟩
            · have hx4 : (!decide (x4 = 0)) = true := by simpa using hx
              have hD : ∀ w0, Calls Tryz.prog 91 #[.agg #[.int .i64 x0, .int .i64 x1, .int .i64 x2, .int .i64 x3, .int .i64 x4]] w0 fun e' w' => e' = .returned (.bool true) ∧ Below w0.heap.size w0 w' := fun w0 => by
                have := closed_any x0 x1 x2 x3 x4 w0
                rwa [hx4] at this
              clear hx4
              have HX := Lib.hid hx
              clear hx
              by_cases hu : firedBefore l k x4 = true
              · have hlk : ∀ (o : Obj) (z : Ext (wr.alloc o)), (Instr.lookup 125 (.map (some w.heap.size)) (.int .i64 x4) false).run Tryz.prog z.w = .ok (.bool true) z.w := fun o z => by
                  have := (HU.out.below (((Below.refl _ wr).alloc (Nat.le_refl _) o).trans (z.h.mono (by simp)))).look (t := 125) Tryz.underlying2 Tryz.underlying4 Tryz.underlying125 (zeroB _) (jobB_fired HJ.out)
                  rwa [hu] at this
                have HUU := Lib.hid hu
                clear hu
                go_wp2
                ((refine wp_region_ext (by kernel_rfl) (by kernel_rfl) ?_); (repeat (any_goals (first | go_big_quiet_step (first | (go_at_call 90; exact quiet_ext (hC _)) | (go_at_call 91; exact quiet_ext (hD _))) | (refine wpQuiet_step (fun K hK => ?_); go_simp; split <;> (refine hK _ ?_; clear hK K)) | quiet_step (first | (go_at_call 90; exact quiet_ext (hC _)) | (go_at_call 91; exact quiet_ext (hD _)))))); (all_goals (refine wpQuiet_nil ?_; rintro _ ⟨z, rfl⟩; have hb' := z.h; generalize z.w = w1 at hb' ⊢; clear z; (first | (have hb2 := bstep hb' hb hb.size; clear hb' hcb hfb hz1 hz2 hz3 hz4 hb; have hb := hb2; clear hb2) | (have hb := hb'; clear hb')); obtain ⟨hcb, hfb, hz1, hz2, hz3, hz4⟩ := bcell hb; (try simp only [World.size_alloc, World.size_setCell, World.size_drew, Nat.lt_add_one_iff, Nat.add_assoc, Nat.reduceAdd] at hz1 hz2 hz3 hz4))))
                all_goals go_wp2
                all_goals go_ret
                all_goals exact ⟨ret_bool (jobsB_false (hL.out.symm ▸ hlt) (jobAtB_3 (by rw [HP.out.1]; have := HX.out; have h9 := jobB_fired HJ.out; show 0 < x4; omega) (by rw [HP.out.1]; exact HUU.out))).symm, bstep hb (hbl.alloc hbl.size _) (by have := hbl.size; simp; omega)⟩
              · have hu : firedBefore l k x4 = false := by simpa using hu
                have hlk : ∀ (o : Obj) (z : Ext (wr.alloc o)), (Instr.lookup 125 (.map (some w.heap.size)) (.int .i64 x4) false).run Tryz.prog z.w = .ok (.bool false) z.w := fun o z => by
                  have := (HU.out.below (((Below.refl _ wr).alloc (Nat.le_refl _) o).trans (z.h.mono (by simp)))).look (t := 125) Tryz.underlying2 Tryz.underlying4 Tryz.underlying125 (zeroB _) (jobB_fired HJ.out)
                  rwa [hu] at this
                have HUU := Lib.hid hu
                clear hu
                go_wp2
                ((refine wp_region_ext (by kernel_rfl) (by kernel_rfl) ?_); (repeat (any_goals (first | go_big_quiet_step (first | (go_at_call 90; exact quiet_ext (hC _)) | (go_at_call 91; exact quiet_ext (hD _))) | (refine wpQuiet_step (fun K hK => ?_); go_simp; split <;> (refine hK _ ?_; clear hK K)) | quiet_step (first | (go_at_call 90; exact quiet_ext (hC _)) | (go_at_call 91; exact quiet_ext (hD _)))))); (all_goals (refine wpQuiet_nil ?_; rintro _ ⟨z, rfl⟩; have hb' := z.h; generalize z.w = w1 at hb' ⊢; clear z; (first | (have hb2 := bstep hb' hb hb.size; clear hb' hcb hfb hz1 hz2 hz3 hz4 hb; have hb := hb2; clear hb2) | (have hb := hb'; clear hb')); obtain ⟨hcb, hfb, hz1, hz2, hz3, hz4⟩ := bcell hb; (try simp only [World.size_alloc, World.size_setCell, World.size_drew, Nat.lt_add_one_iff, Nat.add_assoc, Nat.reduceAdd] at hz1 hz2 hz3 hz4))))
                all_goals try (exfalso; omega)
                have hfr : Below w.heap.size w w1 := bstep hb (hbl.alloc hbl.size _) (by have := hbl.size; simp; omega)
                have HM : Marked Tryz.prog 2 4 w1 w.heap.size k (firedBefore l k) := HU.out.below (((Below.refl _ wr).alloc (Nat.le_refl _) _).trans (hb.mono (by simp)))
                have hsz : w.heap.size ≤ w1.heap.size := hfr.size
                have hy := jobB_fired HJ.out
                go_wp2_with (at_mapUpdate; refine wpList_mark rfl _ _ _ 125 rfl 2 4 Tryz.underlying2 Tryz.underlying4 Tryz.underlying125 w.heap.size k (firedBefore l k) rfl HM (by unfold maxLen; omega) x4 hy rfl rfl ?_; intro w5 HM5 hg5)
                refine ⟨⟨k + 1, by omega, by go_num, hfr.grown hg5 hsz (fun k hk => by injection hk with hk; omega), Lib.hid (upto_succ hall.out (jobAtB_4 (by rw [HP.out.1]; exact HJ.out) (by rw [HP.out.1, HP.out.2]; exact HG.out) (by rw [HP.out.1]; exact .inr HUU.out))), Lib.hid (by
                  have e : firedBefore l (k + 1) = fun z => firedBefore l k z || decide (x4 = z) := funext fun z => by rw [firedBefore_succ, HP.out.1]
                  rw [e]
                  exact HM5)⟩, by simp [intOf]; omega⟩
          · have hk0' : (0 : Int) < (k : Int) := by omega
            have hxy : y0 < x0 := by omega
            have hd : decide (x0 ≤ y0) = false := decide_eq_false (by omega)
            clear hbad
            by_cases hx : x4 = 0
            · have hx4 : (!decide (x4 = 0)) = false := by simpa using hx
              have hD : ∀ w0, Calls Tryz.prog 91 #[.agg #[.int .i64 x0, .int .i64 x1, .int .i64 x2, .int .i64 x3, .int .i64 x4]] w0 fun e' w' => e' = .returned (.bool false) ∧ Below w0.heap.size w0 w' := fun w0 => by
                have := closed_any x0 x1 x2 x3 x4 w0
                rwa [hx4] at this
              have hxl : x4 ≤ 0 := by omega
              clear hx
              go_wp2
              ((refine wp_region_ext (by kernel_rfl) (by kernel_rfl) ?_); (repeat (any_goals (first | go_big_quiet_step (first | (go_at_call 90; exact quiet_ext (hC _)) | (go_at_call 91; exact quiet_ext (hD _))) | (refine wpQuiet_step (fun K hK => ?_); go_simp; split <;> (refine hK _ ?_; clear hK K)) | quiet_step (first | (go_at_call 90; exact quiet_ext (hC _)) | (go_at_call 91; exact quiet_ext (hD _)))))); (all_goals (refine wpQuiet_nil ?_; rintro _ ⟨z, rfl⟩; have hb' := z.h; generalize z.w = w1 at hb' ⊢; clear z; (first | (have hb2 := bstep hb' hb hb.size; clear hb' hcb hfb hz1 hz2 hz3 hz4 hb; have hb := hb2; clear hb2) | (have hb := hb'; clear hb')); obtain ⟨hcb, hfb, hz1, hz2, hz3, hz4⟩ := bcell hb; (try simp only [World.size_alloc, World.size_setCell, World.size_drew, Nat.lt_add_one_iff, Nat.add_assoc, Nat.reduceAdd] at hz1 hz2 hz3 hz4))))
              all_goals try (exfalso; omega)
              have hfr : Below w.heap.size w w1 := bstep hb (hbl.alloc hbl.size _) (by have := hbl.size; simp; omega)
              have HM : Marked Tryz.prog 2 4 w1 w.heap.size k (firedBefore l k) := HU.out.below (((Below.refl _ wr).alloc (Nat.le_refl _) _).trans (hb.mono (by simp)))
              have hsz : w.heap.size ≤ w1.heap.size := hfr.size
              have hy := jobB_fired HJ.out
              go_wp2_with (at_mapUpdate; refine wpList_mark rfl _ _ _ 125 rfl 2 4 Tryz.underlying2 Tryz.underlying4 Tryz.underlying125 w.heap.size k (firedBefore l k) rfl HM (by unfold maxLen; omega) x4 hy rfl rfl ?_; intro w5 HM5 hg5)
              refine ⟨⟨k + 1, by omega, by go_num, hfr.grown hg5 hsz (fun k hk => by injection hk with hk; omega), Lib.hid (upto_succ hall.out (jobAtB_4 (by rw [HP.out.1]; exact HJ.out) (by rw [HP.out.1, HP.out.2]; exact HG.out) (by rw [HP.out.1]; exact .inl hxl))), Lib.hid (by
                have e : firedBefore l (k + 1) = fun z => firedBefore l k z || decide (x4 = z) := funext fun z => by rw [firedBefore_succ, HP.out.1]
                rw [e]
                exact HM5)⟩, by simp [intOf]; omega⟩
            · have hx4 : (!decide (x4 = 0)) = true := by simpa using hx
              have hD : ∀ w0, Calls Tryz.prog 91 #[.agg #[.int .i64 x0, .int .i64 x1, .int .i64 x2, .int .i64 x3, .int .i64 x4]] w0 fun e' w' => e' = .returned (.bool true) ∧ Below w0.heap.size w0 w' := fun w0 => by
                have := closed_any x0 x1 x2 x3 x4 w0
                rwa [hx4] at this
              clear hx4
              have HX := Lib.hid hx
              clear hx
              by_cases hu : firedBefore l k x4 = true
              · have hlk : ∀ (o : Obj) (z : Ext (wr.alloc o)), (Instr.lookup 125 (.map (some w.heap.size)) (.int .i64 x4) false).run Tryz.prog z.w = .ok (.bool true) z.w := fun o z => by
                  have := (HU.out.below (((Below.refl _ wr).alloc (Nat.le_refl _) o).trans (z.h.mono (by simp)))).look (t := 125) Tryz.underlying2 Tryz.underlying4 Tryz.underlying125 (zeroB _) (jobB_fired HJ.out)
                  rwa [hu] at this
                have HUU := Lib.hid hu
                clear hu
                go_wp2
                ((refine wp_region_ext (by kernel_rfl) (by kernel_rfl) ?_); (repeat (any_goals (first | go_big_quiet_step (first | (go_at_call 90; exact quiet_ext (hC _)) | (go_at_call 91; exact quiet_ext (hD _))) | (refine wpQuiet_step (fun K hK => ?_); go_simp; split <;> (refine hK _ ?_; clear hK K)) | quiet_step (first | (go_at_call 90; exact quiet_ext (hC _)) | (go_at_call 91; exact quiet_ext (hD _)))))); (all_goals (refine wpQuiet_nil ?_; rintro _ ⟨z, rfl⟩; have hb' := z.h; generalize z.w = w1 at hb' ⊢; clear z; (first | (have hb2 := bstep hb' hb hb.size; clear hb' hcb hfb hz1 hz2 hz3 hz4 hb; have hb := hb2; clear hb2) | (have hb := hb'; clear hb')); obtain ⟨hcb, hfb, hz1, hz2, hz3, hz4⟩ := bcell hb; (try simp only [World.size_alloc, World.size_setCell, World.size_drew, Nat.lt_add_one_iff, Nat.add_assoc, Nat.reduceAdd] at hz1 hz2 hz3 hz4))))
                all_goals go_wp2
                all_goals go_ret
                all_goals exact ⟨ret_bool (jobsB_false (hL.out.symm ▸ hlt) (jobAtB_3 (by rw [HP.out.1]; have := HX.out; have h9 := jobB_fired HJ.out; show 0 < x4; omega) (by rw [HP.out.1]; exact HUU.out))).symm, bstep hb (hbl.alloc hbl.size _) (by have := hbl.size; simp; omega)⟩
              · have hu : firedBefore l k x4 = false := by simpa using hu
                have hlk : ∀ (o : Obj) (z : Ext (wr.alloc o)), (Instr.lookup 125 (.map (some w.heap.size)) (.int .i64 x4) false).run Tryz.prog z.w = .ok (.bool false) z.w := fun o z => by
                  have := (HU.out.below (((Below.refl _ wr).alloc (Nat.le_refl _) o).trans (z.h.mono (by simp)))).look (t := 125) Tryz.underlying2 Tryz.underlying4 Tryz.underlying125 (zeroB _) (jobB_fired HJ.out)
                  rwa [hu] at this
                have HUU := Lib.hid hu
                clear hu
                go_wp2
                ((refine wp_region_ext (by kernel_rfl) (by kernel_rfl) ?_); (repeat (any_goals (first | go_big_quiet_step (first | (go_at_call 90; exact quiet_ext (hC _)) | (go_at_call 91; exact quiet_ext (hD _))) | (refine wpQuiet_step (fun K hK => ?_); go_simp; split <;> (refine hK _ ?_; clear hK K)) | quiet_step (first | (go_at_call 90; exact quiet_ext (hC _)) | (go_at_call 91; exact quiet_ext (hD _)))))); (all_goals (refine wpQuiet_nil ?_; rintro _ ⟨z, rfl⟩; have hb' := z.h; generalize z.w = w1 at hb' ⊢; clear z; (first | (have hb2 := bstep hb' hb hb.size; clear hb' hcb hfb hz1 hz2 hz3 hz4 hb; have hb := hb2; clear hb2) | (have hb := hb'; clear hb')); obtain ⟨hcb, hfb, hz1, hz2, hz3, hz4⟩ := bcell hb; (try simp only [World.size_alloc, World.size_setCell, World.size_drew, Nat.lt_add_one_iff, Nat.add_assoc, Nat.reduceAdd] at hz1 hz2 hz3 hz4))))
                all_goals try (exfalso; omega)
                have hfr : Below w.heap.size w w1 := bstep hb (hbl.alloc hbl.size _) (by have := hbl.size; simp; omega)
                have HM : Marked Tryz.prog 2 4 w1 w.heap.size k (firedBefore l k) := HU.out.below (((Below.refl _ wr).alloc (Nat.le_refl _) _).trans (hb.mono (by simp)))
                have hsz : w.heap.size ≤ w1.heap.size := hfr.size
                have hy := jobB_fired HJ.out
                go_wp2_with (at_mapUpdate; refine wpList_mark rfl _ _ _ 125 rfl 2 4 Tryz.underlying2 Tryz.underlying4 Tryz.underlying125 w.heap.size k (firedBefore l k) rfl HM (by unfold maxLen; omega) x4 hy rfl rfl ?_; intro w5 HM5 hg5)
                refine ⟨⟨k + 1, by omega, by go_num, hfr.grown hg5 hsz (fun k hk => by injection hk with hk; omega), Lib.hid (upto_succ hall.out (jobAtB_4 (by rw [HP.out.1]; exact HJ.out) (by rw [HP.out.1, HP.out.2]; exact HG.out) (by rw [HP.out.1]; exact .inr HUU.out))), Lib.hid (by
                  have e : firedBefore l (k + 1) = fun z => firedBefore l k z || decide (x4 = z) := funext fun z => by rw [firedBefore_succ, HP.out.1]
                  rw [e]
                  exact HM5)⟩, by simp [intOf]; omega⟩
      · have hj : jobB x0 x1 x2 x3 x4 = false := by simpa using hj
        have hC : ∀ w0, Calls Tryz.prog 90 #[.agg #[.int .i64 x0, .int .i64 x1, .int .i64 x2, .int .i64 x3, .int .i64 x4]] w0 fun e' w' => e' = .returned (.bool false) ∧ Below w0.heap.size w0 w' := fun w0 => by
          have := jobOk_any x0 x1 x2 x3 x4 w0
          rwa [hj] at this
        have HJ := Lib.hid hj
        clear hj
        go_wp2
        ((refine wp_region_ext (by kernel_rfl) (by kernel_rfl) ?_); (repeat (any_goals (first | go_big_quiet_step ((go_at_call 90; exact quiet_ext (hC _))) | (refine wpQuiet_step (fun K hK => ?_); go_simp; split <;> (refine hK _ ?_; clear hK K)) | quiet_step ((go_at_call 90; exact quiet_ext (hC _)))))); (all_goals (refine wpQuiet_nil ?_; rintro _ ⟨z, rfl⟩; have hb' := z.h; generalize z.w = w1 at hb' ⊢; clear z; (first | (have hb2 := bstep hb' hb hb.size; clear hb' hcb hfb hz1 hz2 hz3 hz4 hb; have hb := hb2; clear hb2) | (have hb := hb'; clear hb')); obtain ⟨hcb, hfb, hz1, hz2, hz3, hz4⟩ := bcell hb; (try simp only [World.size_alloc, World.size_setCell, World.size_drew, Nat.lt_add_one_iff, Nat.add_assoc, Nat.reduceAdd] at hz1 hz2 hz3 hz4))))
        all_goals go_wp2
        all_goals go_ret
        all_goals exact ⟨ret_bool (jobsB_false (hL.out.symm ▸ hlt) (jobAtB_1 (by rw [HP.out.1]; exact HJ.out))).symm, bstep hb (hbl.alloc hbl.size _) (by have := hbl.size; simp; omega)⟩
    · have hkn : k = n := by omega
      subst hkn
      go_wp2
      go_ret
      exact ⟨ret_bool (jobsB_true (by have := hL.out; omega) (hL.out.symm ▸ hall.out)).symm, hbl⟩
end Go.Proofs.YtokklkmibjpjnaaGreat
namespace Go.Proofs.YtokklkmibjpjnaaGreat
set_option linter.unusedSimpArgs false
set_option linter.unusedVariables false
attribute [local go_sem] n_lt2 n_lt3 n_lt4 n_le2 n_le3
open Go.RowKit
/-- The place of the first pair with this key, or the list's length. -/
def jobIx (l : List Jb) (key : Int) : Nat := l.findIdx (fun p => decide (p.i = key))
def placeJ (l : List Jb) (key : Int) : Int := if jobIx l key < l.length then (jobIx l key : Int) else -1
def jobAtV (l : List Jb) (key : Int) : Jb × Bool := if jobIx l key < l.length then (l.getD (jobIx l key) default, true) else (default, false)
def jobAtR (l : List Jb) (key : Int) : Jb × Bool := if jobsB l = true then jobAtV l key else (default, false)
theorem jobIx_some {l : List Jb} {key : Int} {k : Nat} (hk : k < l.length) (hj : ∀ j, j < k → (l.getD j default).i ≠ key) (h : (l.getD k default).i = key) : jobIx l key = k := by
  unfold jobIx
  rw [List.findIdx_eq hk]
  refine ⟨?_, fun j hjk => ?_⟩
  · have : l.getD k default = l[k] := by simp [List.getD, hk]
    rw [this] at h
    simpa using h
  · have hj' := hj j hjk
    have : l.getD j default = l[j] := by simp [List.getD, Nat.lt_trans hjk hk]
    rw [this] at hj'
    simpa using hj'
theorem jobIx_none {l : List Jb} {key : Int} (hj : ∀ j, j < l.length → (l.getD j default).i ≠ key) : jobIx l key = l.length := by
  unfold jobIx
  rw [List.findIdx_eq_length]
  intro x hx
  obtain ⟨i, hi, rfl⟩ := List.getElem_of_mem hx
  have hj' := hj i hi
  have : l.getD i default = l[i] := by simp [List.getD, hi]
  rw [this] at hj'
  simpa using hj'
theorem placeJ_some {l : List Jb} {key : Int} {k : Nat} (hk : k < l.length) (hj : ∀ j, j < k → (l.getD j default).i ≠ key) (h : (l.getD k default).i = key) : placeJ l key = k := by
  unfold placeJ
  rw [jobIx_some hk hj h, if_pos hk]
theorem placeJ_none {l : List Jb} {key : Int} (hj : ∀ j, j < l.length → (l.getD j default).i ≠ key) : placeJ l key = -1 := by
  unfold placeJ
  rw [jobIx_none hj, if_neg (Nat.lt_irrefl _)]
theorem jobAtV_some {l : List Jb} {key : Int} {k : Nat} (hk : k < l.length) (hj : ∀ j, j < k → (l.getD j default).i ≠ key) (h : (l.getD k default).i = key) : jobAtV l key = (l.getD k default, true) := by
  unfold jobAtV
  rw [jobIx_some hk hj h, if_pos hk]
theorem jobAtV_none {l : List Jb} {key : Int} (hj : ∀ j, j < l.length → (l.getD j default).i ≠ key) : jobAtV l key = (default, false) := by
  unfold jobAtV
  rw [jobIx_none hj, if_neg (Nat.lt_irrefl _)]
theorem below_uptoJ {l : List Jb} {key : Int} {k : Nat} (h : ∀ j, j < k → (l.getD j default).i ≠ key) (hk : (l.getD k default).i ≠ key) : ∀ j, j < k + 1 → (l.getD j default).i ≠ key := fun j hj => by
  rcases Nat.lt_or_ge j k with h1 | h1
  · exact h j h1
  · obtain rfl : j = k := by omega
    exact hk
attribute [local go_sem] Ext.cell Ext.frozen

theorem jobId_any (a b c d e : Int) (w : World) :
    Calls Tryz.prog 123 #[.agg #[.int .i64 a, .int .i64 b, .int .i64 c, .int .i64 d, .int .i64 e]] w fun e' w' => e' = .returned (.int .i64 a) ∧ Below w.heap.size w w' := by
  go_enter Tryz.func123, Tryz.ntmps123
  go_wp2
  go_ret
  exact ⟨rfl, by (repeat' (first | (with_reducible exact Below.refl _ _) | (with_reducible assumption) | (with_reducible refine Below.alloc ?_ ?_ _) | (with_reducible refine Below.drew ?_) | (with_reducible refine Below.setCell ?_ ?_ _) | (with_reducible refine bstep (by assumption) ?_ ?_) | (with_reducible exact Nat.le_refl _) | omega | (simp [*]; done) | (simp [*]; omega)))⟩
set_option maxHeartbeats 400000 in
theorem isJob_any (x0 x1 x2 x3 x4 key : Int) (p q : Nat) (w : World) (hp : w.cell? ⟨p, 0, none⟩ = some (.func (.func 123) #[] #[])) (hq : w.cell? ⟨q, 0, none⟩ = some (.int .i64 key)) (hpl : p < w.heap.size) (hql : q < w.heap.size) :
    Calls Tryz.prog 136 #[.agg #[.int .i64 x0, .int .i64 x1, .int .i64 x2, .int .i64 x3, .int .i64 x4], .pointer (some ⟨p, 0, none⟩), .pointer (some ⟨q, 0, none⟩)] w fun e' w' => e' = .returned (.bool (decide (x0 = key))) ∧ Below w.heap.size w w' := by
  go_enter Tryz.func136, Tryz.ntmps136
  go_wp2
  ((refine wp_region_ext (by kernel_rfl) (by kernel_rfl) ?_); (repeat (any_goals (first | go_big_quiet_step ((go_at_call 123; exact quiet_ext (jobId_any _ _ _ _ _ _))) | (refine wpQuiet_step (fun K hK => ?_); go_simp; split <;> (refine hK _ ?_; clear hK K)) | quiet_step ((go_at_call 123; exact quiet_ext (jobId_any _ _ _ _ _ _)))))); (all_goals (refine wpQuiet_nil ?_; rintro _ ⟨z, rfl⟩; have hb' := z.h; generalize z.w = w1 at hb' ⊢; clear z; (first | (have hb2 := bstep hb' hb hb.size; clear hb' hcb hfb hz1 hz2 hz3 hz4 hb; have hb := hb2; clear hb2) | (have hb := hb'; clear hb')); obtain ⟨hcb, hfb, hz1, hz2, hz3, hz4⟩ := bcell hb; (try simp only [World.size_alloc, World.size_setCell, World.size_drew, Nat.lt_add_one_iff, Nat.add_assoc, Nat.reduceAdd] at hz1 hz2 hz3 hz4))))
  all_goals go_wp2
  all_goals go_ret
  all_goals exact ⟨ret_bool (by (first | rfl | (simp [*]; done) | (subst_vars; simp [*]; done) | (simp_all; done))), by (repeat' (first | (with_reducible exact Below.refl _ _) | (with_reducible assumption) | (with_reducible refine Below.alloc ?_ ?_ _) | (with_reducible refine Below.drew ?_) | (with_reducible refine Below.setCell ?_ ?_ _) | (with_reducible refine bstep (by assumption) ?_ ?_) | (with_reducible exact Nat.le_refl _) | omega | (simp [*]; done) | (simp [*]; omega)))⟩
set_option maxHeartbeats 800000 in
theorem indexJob_any (A : Option Addr) (n cap : Nat) (l : List Jb) (key : Int) (p q : Nat) (w : World) (hS : Sl w 5 A n (JB l)) (hl : l.length = n) (hn : n ≤ maxLen)
    (hp : w.cell? ⟨p, 0, none⟩ = some (.func (.func 123) #[] #[])) (hq : w.cell? ⟨q, 0, none⟩ = some (.int .i64 key)) (hpl : p < w.heap.size) (hql : q < w.heap.size) :
    Calls Tryz.prog 135 #[.slice A n cap, .func (.func 136) #[] #[.pointer (some ⟨p, 0, none⟩), .pointer (some ⟨q, 0, none⟩)]] w fun e' w' => e' = .returned (.int .i64 (placeJ l key)) ∧ Below w.heap.size w w' := by
  unfold maxLen at hn
  have hL := Lib.hid hl
  have HS := Lib.hid hS
  have HP := Lib.hid hp
  have HQ := Lib.hid hq
  clear hl hS hp hq
  go_enter Tryz.func135, Tryz.ntmps135
  go_wp2
  go_loopw [8] (fun i wr => ∃ k : Nat, k ≤ n ∧ i = .int .i64 k ∧ Below w.heap.size w wr ∧ Hid (∀ j, j < k → (l.getD j default).i ≠ key)) (fun i _ => n - (intOf i).toNat)
  case atStart => exact ⟨0, Nat.zero_le _, rfl, Below.refl _ _, fun j hj => absurd hj (by omega)⟩
  case round =>
    obtain ⟨k, hk, rfl, hbl, hall⟩ := hrel
    by_cases hlt : k < n
    · obtain ⟨b, off, rfl, hb, hcell⟩ := sl_jobs HS.out (by omega)
      obtain ⟨h0, h1, h2, h3, h4⟩ := hcell k hlt
      clear hcell
      rw [← hbl.cell (by exact hb)] at h0 h1 h2 h3 h4
      generalize hpk : l.getD k default = pk at h0 h1 h2 h3 h4
      obtain ⟨x, x1, x2, x3, x4⟩ := pk
      simp only at h0 h1 h2 h3 h4
      have H := Lib.hid hpk
      clear hpk
      have hbr : b < wr.heap.size := Nat.lt_of_lt_of_le hb hbl.size
      have c1 := isJob_any x x1 x2 x3 x4 key p q wr ((hbl.cell (p := ⟨p, 0, none⟩) hpl).trans HP.out) ((hbl.cell (p := ⟨q, 0, none⟩) hql).trans HQ.out) (Nat.lt_of_lt_of_le hpl hbl.size) (Nat.lt_of_lt_of_le hql hbl.size)
      by_cases hx : x = key
      · simp only [hx, decide_true] at c1
        subst hx
        go_wp2_with fail
        refine c1.mono ?_
        rintro e w1 ⟨rfl, b1⟩
        go_wp2
        go_ret
        exact ⟨ret_int (placeJ_some (hL.out.symm ▸ hlt) hall.out (by rw [H.out])).symm, bstep b1 hbl hbl.size⟩
      · simp only [hx, decide_false] at c1
        go_wp2_with fail
        refine c1.mono ?_
        rintro e w1 ⟨rfl, b1⟩
        go_wp2
        exact ⟨⟨k + 1, by omega, by go_num, bstep b1 hbl hbl.size, below_uptoJ hall.out (by rw [H.out]; exact hx)⟩, by simp [intOf]; omega⟩
    · have hkn : k = n := by omega
      subst hkn
      go_wp2
      go_ret
      exact ⟨ret_int (placeJ_none (hL.out.symm ▸ hall.out)).symm, hbl⟩
set_option maxHeartbeats 400000 in
theorem placeJob_any (A : Option Addr) (n cap : Nat) (l : List Jb) (key : Int) (w : World) (hS : Sl w 5 A n (JB l)) (hl : l.length = n) (hn : n ≤ maxLen) :
    Calls Tryz.prog 122 #[.slice A n cap, .int .i64 key, .func (.func 123) #[] #[]] w fun e' w' => e' = .returned (.int .i64 (placeJ l key)) ∧ Below w.heap.size w w' := by
  generalize hv : placeJ l key = v
  go_enter Tryz.func122, Tryz.ntmps122
  go_wp2_with fail
  refine calls_named ?_
  rintro w1 hw1
  have b1 : Below w.heap.size w w1 := by rw [hw1]; (repeat' (first | (with_reducible exact Below.refl _ _) | (with_reducible assumption) | (with_reducible refine Below.alloc ?_ ?_ _) | (with_reducible refine Below.drew ?_) | (with_reducible refine Below.setCell ?_ ?_ _) | (with_reducible refine bstep (by assumption) ?_ ?_) | (with_reducible exact Nat.le_refl _) | omega | (simp [*]; done) | (simp [*]; omega)))
  have hq : w1.cell? ⟨w.heap.size, 0, none⟩ = some (.int .i64 key) := by rw [hw1]; simp [go_sem]
  have hp : w1.cell? ⟨w.heap.size + 1, 0, none⟩ = some (.func (.func 123) #[] #[]) := by rw [hw1]; simp [go_sem]
  have hs : w1.heap.size = w.heap.size + 2 := by rw [hw1]; simp
  clear hw1
  have c1 := indexJob_any A n cap l key (w.heap.size + 1) w.heap.size w1 (hS.below b1) hl hn hp hq (by omega) (by omega)
  rw [hv] at c1
  refine c1.mono ?_
  rintro e w2 ⟨rfl, b2⟩
  go_wp2
  go_ret
  exact ⟨rfl, bthen b1 b2⟩
end Go.Proofs.YtokklkmibjpjnaaGreat
namespace Go.Proofs.YtokklkmibjpjnaaGreat
set_option linter.unusedSimpArgs false
set_option linter.unusedVariables false
attribute [local go_sem] n_lt2 n_lt3 n_lt4 n_le2 n_le3
open Go.RowKit
attribute [local go_sem] Ext.cell Ext.frozen


theorem info_Int64 : (Tryz.prog.info? 2).map (fun i => (i.zero, i.size, i.bytes)) = some (some (.int .i64 0), 1, 8) := by kernel_rfl




end Go.Proofs.YtokklkmibjpjnaaGreat
namespace Go.Proofs.YtokklkmibjpjnaaGreat
set_option linter.unusedSimpArgs false
set_option linter.unusedVariables false
attribute [local go_sem] n_lt2 n_lt3 n_lt4 n_le2 n_le3
open Go.RowKit
attribute [local go_sem] Ext.cell Ext.frozen

theorem row1i {w : World} {g lo : Nat} {E : TypeId} {a : Int} (h : Blk w g E #[.int .i64 a]) (hlo : lo ≤ g) : Row w lo E 1 (some ⟨g, 0, none⟩) 1 1 [a] := by
  refine h.row hlo (by simp [maxLen]) rfl rfl ?_
  intro j hj
  have hj0 : j = 0 := by omega
  subst hj0
  rfl
/-- Block p is a cursor that holds the row zs. -/
def Cur (w : World) (lo p E C : Nat) (n : Nat) (zs : List Int) : Prop :=
  ∃ A cap, Blk w p C #[.slice A n cap, .int .i64 0] ∧ Row w lo E 1 A n cap zs ∧ (∀ a, A = some a → a.block ≠ p) ∧ lo ≤ p
theorem Cur.alloc {w : World} {lo p E C n : Nat} {zs : List Int} (h : Cur w lo p E C n zs) (o : Obj) : Cur (w.alloc o) lo p E C n zs := by
  obtain ⟨A, cap, K, R, hne, hlo⟩ := h
  exact ⟨A, cap, K.alloc o, World.ownsRow.alloc R o, hne, hlo⟩
theorem Cur.lt {w : World} {lo p E C n : Nat} {zs : List Int} (h : Cur w lo p E C n zs) : p < w.heap.size := by
  obtain ⟨A, cap, K, _⟩ := h
  exact K.lt
end Go.Proofs.YtokklkmibjpjnaaGreat
namespace Go.Proofs.YtokklkmibjpjnaaGreat
set_option linter.unusedSimpArgs false
set_option linter.unusedVariables false
attribute [local go_sem] n_lt2 n_lt3 n_lt4 n_le2 n_le3
open Go.RowKit

def ordersRowL (l : List Jb) : List Int := if jobsB l = true then (l.length : Int) :: JB l else []
theorem ordersRowL_len (l : List Jb) : (ordersRowL l).length ≤ 41 := by
  unfold ordersRowL
  split
  · rename_i h
    have := (jobsB_all h).1
    simp [JB_len]; omega
  · simp
theorem JB_append (a b : List Jb) : JB (a ++ b) = JB a ++ JB b := by simp [JB]
theorem cell_five_at (w : World) (x0 x1 x2 x3 x4 : Value) (t : TypeId) (g : Nat) (hg : g = w.heap.size) : ∀ j u, [x0, x1, x2, x3, x4][j]? = some u → (w.alloc (.cells #[x0, x1, x2, x3, x4] t)).cell? ((⟨g, 0, none⟩ : Addr).add j) = some u := by
  subst hg
  intro j u hj
  match j, hj with
  | 0, hj => simp at hj; subst hj; simp [Addr.add]
  | 1, hj => simp at hj; subst hj; simp [Addr.add]
  | 2, hj => simp at hj; subst hj; simp [Addr.add]
  | 3, hj => simp at hj; subst hj; simp [Addr.add]
  | 4, hj => simp at hj; subst hj; simp [Addr.add]
theorem JB_take {l : List Jb} {k : Nat} (h : k < l.length) : JB (l.take (k + 1)) = JB (l.take k) ++ [(l.getD k default).i, (l.getD k default).d, (l.getD k default).k, (l.getD k default).v, (l.getD k default).f] := by
  rw [List.take_add_one, JB_append]
  congr 1
  simp [JB, List.getD, h]
attribute [local go_sem] Ext.cell Ext.frozen

end Go.Proofs.YtokklkmibjpjnaaGreat
namespace Go.Proofs.YtokklkmibjpjnaaGreat
set_option linter.unusedSimpArgs false
set_option linter.unusedVariables false
attribute [local go_sem] n_lt2 n_lt3 n_lt4 n_le2 n_le3
open Go.RowKit
theorem JB_inj {a b : List Jb} (h : JB a = JB b) : a = b := by
  have hl : a.length = b.length := by
    have := congrArg List.length h
    rw [JB_len, JB_len] at this
    omega
  apply List.ext_getElem hl
  intro i h1 h2
  have e : ∀ j, j < 5 → _ := fun j hj => JB_get a i j h1 hj
  have e' : ∀ j, j < 5 → _ := fun j hj => JB_get b i j h2 hj
  rw [h] at e
  have e0 := (e 0 (by decide)).symm.trans (e' 0 (by decide))
  have e1 := (e 1 (by decide)).symm.trans (e' 1 (by decide))
  have e2 := (e 2 (by decide)).symm.trans (e' 2 (by decide))
  have e3 := (e 3 (by decide)).symm.trans (e' 3 (by decide))
  have e4 := (e 4 (by decide)).symm.trans (e' 4 (by decide))
  have ga : a.getD i default = a[i] := by simp [List.getD, h1]
  have gb : b.getD i default = b[i] := by simp [List.getD, h2]
  rw [ga, gb] at e0 e1 e2 e3 e4
  cases ha : a[i]; cases hb : b[i]
  rw [ha, hb] at e0 e1 e2 e3 e4
  simp only [List.getD_cons_zero, List.getD_cons_succ] at e0 e1 e2 e3 e4
  rw [e0, e1, e2, e3, e4]
theorem rowj_get {a : Int} {l : List Jb} {k q t : Nat} (hq : q = 1 + 5 * k) (h : k < l.length) (ht : t < 5) : (a :: JB l).getD (q + t) 0 = [(l.getD k default).i, (l.getD k default).d, (l.getD k default).k, (l.getD k default).v, (l.getD k default).f].getD t 0 := by
  subst hq
  rw [show 1 + 5 * k + t = (k * 5 + t) + 1 by omega, List.getD_cons_succ, JB_get l k t h ht]
theorem jobsB_len {l : List Jb} (h : jobsB l = true) : l.length ≤ 10 := Nat.le_trans (jobsB_all h).1 (by decide)
def rowGoodJ (a : Int) (l : List Jb) : Bool := decide (a = (l.length : Int)) && jobsB l
def rowSelJ (a : Int) (l : List Jb) : List Jb := if rowGoodJ a l = true then l else []
attribute [local go_sem] Ext.cell Ext.frozen

end Go.Proofs.YtokklkmibjpjnaaGreat
namespace Go.Proofs.YtokklkmibjpjnaaGreat
set_option linter.unusedSimpArgs false
set_option linter.unusedVariables false
attribute [local go_sem] n_lt2 n_lt3 n_lt4 n_le2 n_le3
open Go.RowKit

theorem jobAtB_lt {l : List Jb} {i : Nat} (h : jobAtB l i = true) (hi : 0 < i) : (l.getD (i - 1) default).i < (l.getD i default).i := by
  unfold jobAtB at h
  simp only [Bool.and_eq_true, Bool.or_eq_true, decide_eq_true_eq] at h
  rcases h.2.1 with h0 | h0
  · omega
  · exact h0
theorem jobAtB_ok {l : List Jb} {i : Nat} (h : jobAtB l i = true) : jobOkB (l.getD i default) = true := by
  unfold jobAtB at h
  simp only [Bool.and_eq_true] at h
  exact h.1
theorem jobs_up {l : List Jb} (h : jobsB l = true) : ∀ d i, i + d + 1 < l.length → (l.getD i default).i < (l.getD (i + d + 1) default).i
  | 0, i, hi => by
    have := jobAtB_lt ((jobsB_all h).2 (i + 1) (by omega)) (by omega)
    simpa using this
  | d + 1, i, hi => by
    have h1 := jobs_up h d i (by omega)
    have h2 := jobs_up h 0 (i + d + 1) (by omega)
    exact Int.lt_trans h1 h2
theorem jobs_lt {l : List Jb} (h : jobsB l = true) : l.Pairwise (fun p q => p.i < q.i) := by
  rw [List.pairwise_iff_getElem]
  intro i j hi hj hij
  have := jobs_up h (j - i - 1) i (by omega)
  rw [show i + (j - i - 1) + 1 = j by omega] at this
  simpa only [List.getD, List.getElem?_eq_getElem hi, List.getElem?_eq_getElem hj, Option.getD_some] using this
theorem jobs_rng {l : List Jb} (h : jobsB l = true) : ∀ p ∈ l, 1 ≤ p.i ∧ p.i ≤ 20 := fun p hp => by
  obtain ⟨i, hi, rfl⟩ := List.getElem_of_mem hp
  have := jobAtB_ok ((jobsB_all h).2 i hi)
  simp only [List.getD, List.getElem?_eq_getElem hi, Option.getD_some, jobOkB, jobB, Bool.and_eq_true, inB_iff] at this
  exact this.1
theorem jobIx_at {l : List Jb} {key : Int} {k : Nat} (h : jobsB l = true) (hk : k < l.length) (he : (l.getD k default).i = key) : jobIx l key = k :=
  jobIx_some hk (fun j hj he' => by
    have := jobs_up h (k - j - 1) j (by omega)
    rw [show j + (k - j - 1) + 1 = k by omega] at this
    omega) he
theorem jobIx_hit {l : List Jb} {key : Int} (h : jobIx l key < l.length) : (l.getD (jobIx l key) default).i = key := by
  have := List.findIdx_getElem (p := fun p : Jb => decide (p.i = key)) (w := h)
  simp only [decide_eq_true_eq] at this
  simp only [List.getD, List.getElem?_eq_getElem h, Option.getD_some]
  exact this
theorem firIx_hit {l : List Jb} {x : Int} (h : l.findIdx (fun p => decide (p.f = x)) < l.length) : firedBefore l l.length x = true := by
  have := List.findIdx_getElem (p := fun p : Jb => decide (p.f = x)) (w := h)
  simp only [decide_eq_true_eq] at this
  exact firedBefore_true h (by simp only [List.getD, List.getElem?_eq_getElem h, Option.getD_some]; exact this)
theorem firIx_miss {l : List Jb} {x : Int} (h : ¬ l.findIdx (fun p => decide (p.f = x)) < l.length) : firedBefore l l.length x = false := by
  refine firedBefore_false (fun j hj he => h ?_)
  refine List.findIdx_lt_length_of_exists ⟨l[j], List.getElem_mem hj, ?_⟩
  simp only [List.getD, List.getElem?_eq_getElem hj, Option.getD_some] at he
  simpa using he

def lookJ (l : List Jb) (key : Int) : Option Jb := l.find? (fun p => decide (p.i = key))
theorem lookJ_cons (p : Jb) (l : List Jb) (key : Int) : lookJ (p :: l) key = if p.i = key then some p else lookJ l key := by
  unfold lookJ
  rw [List.find?_cons]
  by_cases h : p.i = key <;> simp [h]
theorem lookJ_key {l : List Jb} {key : Int} {p : Jb} (h : lookJ l key = some p) : p.i = key ∧ p ∈ l := by
  unfold lookJ at h
  exact ⟨by simpa using List.find?_some h, List.mem_of_find?_eq_some h⟩
theorem lookJ_none {l : List Jb} {key : Int} (h : ∀ p ∈ l, p.i ≠ key) : lookJ l key = none := by
  unfold lookJ
  rw [List.find?_eq_none]
  intro p hp
  simpa using h p hp
theorem jobAtV_look (l : List Jb) (key : Int) : jobAtV l key = match lookJ l key with | some p => (p, true) | none => (default, false) := by
  induction l with
  | nil => rfl
  | cons p l ih =>
    rw [lookJ_cons]
    by_cases h : p.i = key
    · have : jobIx (p :: l) key = 0 := by simp [jobIx, List.findIdx_cons, h]
      simp [jobAtV, this, h]
    · have h1 : jobIx (p :: l) key = jobIx l key + 1 := by simp [jobIx, List.findIdx_cons, h]
      rw [if_neg h, ← ih]
      simp [jobAtV, h1]
theorem jobAtV_there {l : List Jb} {key : Int} (h : (jobAtV l key).2 = false) : ∀ p ∈ l, p.i ≠ key := by
  intro p hp he
  unfold jobAtV at h
  rw [if_pos] at h
  · cases h
  · exact List.findIdx_lt_length_of_exists ⟨p, hp, by simpa using he⟩
theorem canonJ : ∀ (m : Nat) (a : Int) (l : List Jb), l.Pairwise (fun p q => p.i < q.i) → (∀ p ∈ l, a ≤ p.i ∧ p.i < a + m) → (List.range m).filterMap (fun j : Nat => lookJ l (a + j)) = l
  | 0, a, l, _, h => by
    match l with
    | [] => rfl
    | p :: l => have := h p (by simp); omega
  | m + 1, a, l, hs, h => by
    have hstep : ∀ t : List Jb, (List.range m).filterMap (fun j : Nat => lookJ t (a + (j + 1 : Nat))) = (List.range m).filterMap (fun j : Nat => lookJ t (a + 1 + j)) := fun t => by
      congr 1
      funext j
      congr 1
      omega
    rw [List.range_succ_eq_map, List.filterMap_cons, List.filterMap_map]
    rw [show ((fun j : Nat => lookJ l (a + j)) ∘ Nat.succ) = (fun j : Nat => lookJ l (a + (j + 1 : Nat))) from rfl]
    match l with
    | [] =>
      rw [lookJ_none (by simp), hstep]
      exact canonJ m (a + 1) [] List.Pairwise.nil (by simp)
    | p :: t =>
      rw [List.pairwise_cons] at hs
      by_cases hp : p.i = a
      · rw [lookJ_cons, if_pos (by omega)]
        simp only
        congr 1
        have e : ∀ j : Nat, lookJ (p :: t) (a + (j + 1 : Nat)) = lookJ t (a + 1 + j) := fun j => by
          rw [lookJ_cons, if_neg (by omega)]
          congr 1
          omega
        simp only [e]
        exact canonJ m (a + 1) t hs.2 (fun q hq => by
          have h1 := hs.1 q hq
          have h2 := h q (by simp [hq])
          omega)
      · have h0 := h p (by simp)
        rw [lookJ_none (fun q hq => by
          rcases List.mem_cons.1 hq with rfl | hq
          · omega
          · have := hs.1 q hq
            omega), hstep]
        exact canonJ m (a + 1) (p :: t) (List.pairwise_cons.2 hs) (fun q hq => by
          have h2 := h q hq
          rcases List.mem_cons.1 hq with rfl | hq
          · omega
          · have := hs.1 q hq
            omega)

/-- The job put at its place. -/
def addL : List Jb → Jb → List Jb
  | [], x => [x]
  | p :: t, x => if p.i < x.i then p :: addL t x else x :: p :: t
theorem addL_look (l : List Jb) (x : Jb) (k : Int) : lookJ (addL l x) k = if k = x.i then some x else lookJ l k := by
  induction l with
  | nil =>
    rw [addL, lookJ_cons]
    by_cases h : k = x.i
    · simp [h]
    · rw [if_neg (by simpa using Ne.symm h), if_neg h]
  | cons p t ih =>
    rw [addL]
    split
    · rename_i h1
      rw [lookJ_cons, ih, lookJ_cons]
      by_cases h : k = x.i
      · rw [if_neg (by omega), if_pos h, if_pos h]
      · rw [if_neg h, if_neg h]
    · rw [lookJ_cons]
      by_cases h : k = x.i
      · rw [if_pos h.symm, if_pos h]
      · rw [if_neg (by simpa using Ne.symm h), if_neg h]
theorem addL_mem {l : List Jb} {x q : Jb} (h : q ∈ addL l x) : q = x ∨ q ∈ l := by
  induction l with
  | nil => rw [addL] at h; simpa using h
  | cons p t ih =>
    rw [addL] at h
    split at h
    · rcases List.mem_cons.1 h with rfl | h
      · exact .inr (by simp)
      · rcases ih h with h | h
        · exact .inl h
        · exact .inr (by simp [h])
    · rcases List.mem_cons.1 h with rfl | h
      · exact .inl rfl
      · exact .inr h
theorem addL_lt {l : List Jb} {x : Jb} (h : l.Pairwise (fun p q => p.i < q.i)) (hx : ∀ p ∈ l, p.i ≠ x.i) : (addL l x).Pairwise (fun p q => p.i < q.i) := by
  induction l with
  | nil => simp [addL]
  | cons p t ih =>
    rw [List.pairwise_cons] at h
    have hp := hx p (by simp)
    rw [addL]
    split
    · rename_i h1
      rw [List.pairwise_cons]
      refine ⟨fun q hq => ?_, ih h.2 (fun q hq => hx q (by simp [hq]))⟩
      rcases addL_mem hq with rfl | hq
      · exact h1
      · exact h.1 q hq
    · rename_i h1
      rw [List.pairwise_cons, List.pairwise_cons]
      refine ⟨fun q hq => ?_, h⟩
      rcases List.mem_cons.1 hq with rfl | hq
      · omega
      · have := h.1 q hq; omega
theorem addL_len (l : List Jb) (x : Jb) : (addL l x).length = l.length + 1 := by
  induction l with
  | nil => simp [addL]
  | cons p t ih =>
    rw [addL]
    split
    · simp [ih]
    · simp
theorem addL_ins : ∀ (k : Nat) (l : List Jb) (x : Jb), k ≤ l.length → (∀ j, j < k → (l.getD j default).i < x.i) → (k < l.length → ¬ (l.getD k default).i < x.i) → addL l x = l.take k ++ x :: l.drop k
  | 0, [], x, _, _, _ => rfl
  | 0, p :: t, x, _, _, he => by
    have he' := he (by simp)
    simp only [List.getD_cons_zero] at he'
    rw [addL, if_neg he']
    rfl
  | k + 1, [], x, h, _, _ => by simp at h
  | k + 1, p :: t, x, h, hj, he => by
    have h0 := hj 0 (by omega)
    simp only [List.getD_cons_zero] at h0
    rw [addL, if_pos h0, addL_ins k t x (by simpa using h) (fun j hjk => by simpa using hj (j + 1) (by omega)) (fun h' => by simpa using he (by simpa using h'))]
    rfl
/-- What the reference lists. -/
def addG (l : List Jb) (x : Jb) (j : Nat) : Option Jb := if (j : Int) + 1 = x.i then some x else if (jobAtV l ((j : Int) + 1)).2 = true then some (jobAtV l ((j : Int) + 1)).1 else none
def addTo (l : List Jb) (x : Jb) (k : Nat) : List Jb := (List.range k).filterMap (addG l x)
theorem addTo_succ (l : List Jb) (x : Jb) (k : Nat) : addTo l x (k + 1) = addTo l x k ++ (addG l x k).toList := by
  unfold addTo
  rw [List.range_succ, List.filterMap_append]
  congr 1
theorem addTo_len (l : List Jb) (x : Jb) (k : Nat) : (addTo l x k).length ≤ k := by
  unfold addTo
  exact Nat.le_trans (List.length_filterMap_le _ _) (by simp)
theorem addG_look (l : List Jb) (x : Jb) (j : Nat) : addG l x j = lookJ (addL l x) (1 + (j : Int)) := by
  rw [addL_look, Int.add_comm 1 (j : Int)]
  unfold addG
  by_cases h : (j : Int) + 1 = x.i
  · rw [if_pos h, if_pos h]
  · rw [if_neg h, if_neg h, jobAtV_look]
    cases hl : lookJ l ((j : Int) + 1) with
    | none => simp
    | some p => simp
theorem addTo_all {l : List Jb} {x : Jb} (h : jobsB l = true) (hk : 1 ≤ x.i ∧ x.i ≤ 20) (hx : ∀ p ∈ l, p.i ≠ x.i) : addTo l x 20 = addL l x := by
  have e : addG l x = fun j : Nat => lookJ (addL l x) (1 + (j : Int)) := funext (addG_look l x)
  unfold addTo
  rw [e]
  refine canonJ 20 1 (addL l x) (addL_lt (jobs_lt h) hx) (fun p hp => ?_)
  rcases addL_mem hp with rfl | hp
  · omega
  · have := jobs_rng h p hp
    omega
def addOk (l : List Jb) (x : Jb) : Bool := jobOkB x && (decide (x.f = 0) && (!(jobAtV l x.i).2 && decide (l.length < 8)))
/-- JobAdded's two results. -/
def addR (l : List Jb) (x : Jb) : List Jb × Bool := if jobsB l = true then (if addOk l x = true then (addL l x, true) else (l, false)) else ([], false)
theorem addR_len (l : List Jb) (x : Jb) : (addR l x).1.length ≤ 9 := by
  unfold addR
  split
  · rename_i h
    have h1 := (jobsB_all h).1
    split
    · simp only [addL_len]; omega
    · simp only; omega
  · simp

/-- JobFired's two results. -/
def firedOk (l : List Jb) (id x : Int) : Bool := decide (jobIx l id < l.length) && (decide ((l.getD (jobIx l id) default).f = 0) && (inB x 1 2000 && !firedBefore l l.length x))
def firedSet (l : List Jb) (k : Nat) (x : Int) : List Jb := l.set k { (l.getD k default) with f := x }
def firedR (l : List Jb) (id x : Int) : List Jb × Bool := if jobsB l = true then (if firedOk l id x = true then (firedSet l (jobIx l id) x, true) else (l, false)) else ([], false)
theorem firedR_len (l : List Jb) (id x : Int) : (firedR l id x).1.length ≤ 9 := by
  unfold firedR
  split
  · rename_i h
    have h1 := (jobsB_all h).1
    split
    · simp only [firedSet, List.length_set]; omega
    · simp only; omega
  · simp
theorem JB_take' (l : List Jb) (k : Nat) : JB (l.take k) = (JB l).take (k * 5) := by
  induction l generalizing k with
  | nil => simp [JB]
  | cons p l ih =>
    cases k with
    | zero => simp [JB]
    | succ k =>
      have := ih k
      rw [List.take_succ_cons, show (k + 1) * 5 = k * 5 + 1 + 1 + 1 + 1 + 1 by omega]
      simp only [JB, List.flatMap_cons, List.cons_append, List.nil_append, List.take_succ_cons] at this ⊢
      rw [this]
theorem JB_drop' (l : List Jb) (k : Nat) : JB (l.drop k) = (JB l).drop (k * 5) := by
  induction l generalizing k with
  | nil => simp [JB]
  | cons p l ih =>
    cases k with
    | zero => simp [JB]
    | succ k =>
      have := ih k
      rw [List.drop_succ_cons, show (k + 1) * 5 = k * 5 + 1 + 1 + 1 + 1 + 1 by omega]
      simp only [JB, List.flatMap_cons, List.cons_append, List.nil_append, List.drop_succ_cons] at this ⊢
      exact this
theorem JB_ins (l : List Jb) (k : Nat) (x : Jb) : JB (l.take k ++ x :: l.drop k) = (JB l).take (k * 5) ++ [x.i, x.d, x.k, x.v, x.f] ++ (JB l).drop (k * 5) := by
  rw [JB_append, JB_take', List.append_assoc]
  congr 1
  show [x.i, x.d, x.k, x.v, x.f] ++ JB (l.drop k) = _
  rw [JB_drop']
theorem JB_fired_getD (l : List Jb) (k : Nat) (v : Int) (hk : k < l.length) (t : Nat) (ht : t < l.length * 5) : (JB (firedSet l k v)).getD t 0 = if t = k * 5 + 4 then v else (JB l).getD t 0 := by
  have hlen : (firedSet l k v).length = l.length := by simp [firedSet]
  have hi : t / 5 < l.length := by omega
  have hset : (firedSet l k v).getD (t / 5) default = if t / 5 = k then { (l.getD k default) with f := v } else l.getD (t / 5) default := by
    unfold firedSet
    by_cases h : t / 5 = k
    · rw [h]; simp [List.getD, hk]
    · rw [if_neg h]; simp [List.getD, List.getElem?_set_ne (Ne.symm h)]
  have ht' : t = t / 5 * 5 + t % 5 := by omega
  have h5 : t % 5 < 5 := Nat.mod_lt _ (by decide)
  have e1 := JB_get (firedSet l k v) (t / 5) (t % 5) (by rw [hlen]; exact hi) h5
  have e2 := JB_get l (t / 5) (t % 5) hi h5
  rw [← ht'] at e1 e2
  rw [e1, e2, hset]
  by_cases h : t / 5 = k
  · rw [if_pos h]
    by_cases h4 : t % 5 = 4
    · rw [if_pos (by omega), h4]; rfl
    · rw [if_neg (by omega), h]
      rcases (by omega : t % 5 = 0 ∨ t % 5 = 1 ∨ t % 5 = 2 ∨ t % 5 = 3) with e | e | e | e <;> rw [e] <;> rfl
  · rw [if_neg h, if_neg (by omega)]
end Go.Proofs.YtokklkmibjpjnaaGreat
namespace Go.Proofs.YtokklkmibjpjnaaGreat
set_option linter.unusedSimpArgs false
set_option linter.unusedVariables false
attribute [local go_sem] n_lt2 n_lt3 n_lt4 n_le2 n_le3
open Go.RowKit
attribute [local go_sem] Ext.cell Ext.frozen
set_option maxHeartbeats 1000000 in
theorem jobAtV_any (A : Option Addr) (n cap : Nat) (l : List Jb) (key : Int) (w : World) (hS : Sl w 5 A n (JB l)) (hl : l.length = n) (hn : n ≤ maxLen) :
    Calls Tryz.prog 105 #[.slice A n cap, .int .i64 key] w fun e' w' => e' = .returned (.tuple #[.agg #[.int .i64 (jobAtV l key).1.i, .int .i64 (jobAtV l key).1.d, .int .i64 (jobAtV l key).1.k, .int .i64 (jobAtV l key).1.v, .int .i64 (jobAtV l key).1.f], .bool (jobAtV l key).2]) ∧ Below w.heap.size w w' := by
  by_cases hk : jobIx l key < l.length
  · have hv : jobAtV l key = (l.getD (jobIx l key) default, true) := by unfold jobAtV; rw [if_pos hk]
    have ha : placeJ l key = (jobIx l key : Int) := by unfold placeJ; rw [if_pos hk]
    rw [hv]
    generalize jobIx l key = k at hk ha
    rw [hl] at hk
    obtain ⟨b, off, rfl, hb, hcell⟩ := sl_jobs hS (by omega)
    obtain ⟨h0, h1, h2, h3, h4⟩ := hcell k hk
    clear hcell hv
    generalize l.getD k default = pk at h0 h1 h2 h3 h4
    obtain ⟨x0, x1, x2, x3, x4⟩ := pk
    simp only at h0 h1 h2 h3 h4
    have hn' := hn
    unfold maxLen at hn'
    go_enter Tryz.func105, Tryz.ntmps105
    go_wp2_with fail
    refine calls_named ?_
    rintro w0 hw0
    have K0 : Blk w0 w.heap.size 71 #[.int .i64 0, .int .i64 0, .int .i64 0, .int .i64 0, .int .i64 0] := by rw [hw0]; exact Blk.new _ _ _
    have b0 : Below w.heap.size w w0 := by rw [hw0]; (repeat' (first | (with_reducible exact Below.refl _ _) | (with_reducible assumption) | (with_reducible refine Below.alloc ?_ ?_ _) | (with_reducible refine Below.drew ?_) | (with_reducible refine Below.setCell ?_ ?_ _) | (with_reducible refine bstep (by assumption) ?_ ?_) | (with_reducible exact Nat.le_refl _) | omega | (simp [*]; done) | (simp [*]; omega)))
    clear hw0
    have c1 := placeJob_any (some ⟨b, off, none⟩) n cap l key w0 (hS.below b0) hl hn
    rw [ha] at c1
    refine c1.mono ?_
    rintro e w1 ⟨rfl, b1⟩
    have K1 := K0.below b1
    have f1 := bthen b0 b1
    rw [← f1.cell (by exact hb)] at h0 h1 h2 h3 h4
    have hbr : b < w1.heap.size := Nat.lt_of_lt_of_le hb f1.size
    have hk0 : (k : Int) < (n : Int) := by omega
    clear c1 ha K0 hS
    have lt1 := K1.lt
    have q0 : w1.cell? ⟨w.heap.size, 0, none⟩ = some (.int .i64 0) := K1.cell 0
    have q1 : w1.cell? ⟨w.heap.size, 1, none⟩ = some (.int .i64 0) := K1.cell 1
    have q2 : w1.cell? ⟨w.heap.size, 2, none⟩ = some (.int .i64 0) := K1.cell 2
    have q3 : w1.cell? ⟨w.heap.size, 3, none⟩ = some (.int .i64 0) := K1.cell 3
    have q4 : w1.cell? ⟨w.heap.size, 4, none⟩ = some (.int .i64 0) := K1.cell 4
    have qf : ∀ o, w1.frozen? ⟨w.heap.size, o, none⟩ = false := fun o => K1.frozen o
    clear K1
    go_wp2
    refine bodyPost_ret (v := .tuple #[.agg #[.int .i64 x0, .int .i64 x1, .int .i64 x2, .int .i64 x3, .int .i64 x4], .bool true]) (by simp [results, Tryz.results105, go_sem, *]) rfl ⟨rfl, by (repeat' (first | (with_reducible exact Below.refl _ _) | (with_reducible assumption) | (with_reducible refine Below.alloc ?_ ?_ _) | (with_reducible refine Below.drew ?_) | (with_reducible refine Below.setCell ?_ ?_ _) | (with_reducible refine bstep (by assumption) ?_ ?_) | (with_reducible exact Nat.le_refl _) | omega | (simp [*]; done) | (simp [*]; omega)))⟩
  · have hv : jobAtV l key = (default, false) := by unfold jobAtV; rw [if_neg hk]
    have ha : placeJ l key = -1 := by unfold placeJ; rw [if_neg hk]
    rw [hv]
    go_enter Tryz.func105, Tryz.ntmps105
    go_wp2_with fail
    refine calls_named ?_
    rintro w0 hw0
    have K0 : Blk w0 w.heap.size 71 #[.int .i64 0, .int .i64 0, .int .i64 0, .int .i64 0, .int .i64 0] := by rw [hw0]; exact Blk.new _ _ _
    have b0 : Below w.heap.size w w0 := by rw [hw0]; (repeat' (first | (with_reducible exact Below.refl _ _) | (with_reducible assumption) | (with_reducible refine Below.alloc ?_ ?_ _) | (with_reducible refine Below.drew ?_) | (with_reducible refine Below.setCell ?_ ?_ _) | (with_reducible refine bstep (by assumption) ?_ ?_) | (with_reducible exact Nat.le_refl _) | omega | (simp [*]; done) | (simp [*]; omega)))
    clear hw0
    have c1 := placeJob_any A n cap l key w0 (hS.below b0) hl hn
    rw [ha] at c1
    refine c1.mono ?_
    rintro e w1 ⟨rfl, b1⟩
    have K1 := K0.below b1
    have f1 := bthen b0 b1
    have lt1 := K1.lt
    have q0 : w1.cell? ⟨w.heap.size, 0, none⟩ = some (.int .i64 0) := K1.cell 0
    have q1 : w1.cell? ⟨w.heap.size, 1, none⟩ = some (.int .i64 0) := K1.cell 1
    have q2 : w1.cell? ⟨w.heap.size, 2, none⟩ = some (.int .i64 0) := K1.cell 2
    have q3 : w1.cell? ⟨w.heap.size, 3, none⟩ = some (.int .i64 0) := K1.cell 3
    have q4 : w1.cell? ⟨w.heap.size, 4, none⟩ = some (.int .i64 0) := K1.cell 4
    have qf : ∀ o, w1.frozen? ⟨w.heap.size, o, none⟩ = false := fun o => K1.frozen o
    clear K1
    go_wp2
    refine bodyPost_ret (v := .tuple #[.agg #[.int .i64 0, .int .i64 0, .int .i64 0, .int .i64 0, .int .i64 0], .bool false]) (by simp [results, Tryz.results105, go_sem, *]) rfl ⟨rfl, by (repeat' (first | (with_reducible exact Below.refl _ _) | (with_reducible assumption) | (with_reducible refine Below.alloc ?_ ?_ _) | (with_reducible refine Below.drew ?_) | (with_reducible refine Below.setCell ?_ ?_ _) | (with_reducible refine bstep (by assumption) ?_ ?_) | (with_reducible exact Nat.le_refl _) | omega | (simp [*]; done) | (simp [*]; omega)))⟩
set_option maxHeartbeats 1000000 in
theorem specJobAt_any (A : Option Addr) (n cap : Nat) (l : List Jb) (key : Int) (w : World) (hS : Sl w 5 A n (JB l)) (hl : l.length = n) (hn : n ≤ maxLen) :
    Calls Tryz.prog 33 #[.slice A n cap, .int .i64 key] w fun e' w' => e' = .returned (.tuple #[.agg #[.int .i64 (jobAtR l key).1.i, .int .i64 (jobAtR l key).1.d, .int .i64 (jobAtR l key).1.k, .int .i64 (jobAtR l key).1.v, .int .i64 (jobAtR l key).1.f], .bool (jobAtR l key).2]) ∧ Below w.heap.size w w' := by
  by_cases hk : jobsB l = true
  · have hv : jobAtR l key = jobAtV l key := by unfold jobAtR; rw [if_pos hk]
    rw [hv]
    clear hv
    go_enter Tryz.func33, Tryz.ntmps33
    go_wp2_with fail
    refine calls_named ?_
    rintro w0 hw0
    have K0 : Blk w0 w.heap.size 71 #[.int .i64 0, .int .i64 0, .int .i64 0, .int .i64 0, .int .i64 0] := by rw [hw0]; exact Blk.new _ _ _
    have b0 : Below w.heap.size w w0 := by rw [hw0]; (repeat' (first | (with_reducible exact Below.refl _ _) | (with_reducible assumption) | (with_reducible refine Below.alloc ?_ ?_ _) | (with_reducible refine Below.drew ?_) | (with_reducible refine Below.setCell ?_ ?_ _) | (with_reducible refine bstep (by assumption) ?_ ?_) | (with_reducible exact Nat.le_refl _) | omega | (simp [*]; done) | (simp [*]; omega)))
    clear hw0
    have c1 := specJobsOk_any A n cap l w0 (hS.below b0) hl hn
    rw [hk] at c1
    refine c1.mono ?_
    rintro e w1 ⟨rfl, b1⟩
    have K1 := Lib.hid (K0.below b1)
    have f1 := bthen b0 b1
    unfold maxLen at hn
    have hL := Lib.hid hl
    have HS := Lib.hid hS
    clear c1 hk hl hS K0
    have hlo1 : w.heap.size < w1.heap.size := K1.out.lt
    go_wp2
    go_loopw [6] (fun i wr => ∃ k : Nat, k ≤ n ∧ i = .int .i64 k ∧ Below w.heap.size w wr ∧ Hid (wr = w1) ∧ Hid (∀ j, j < k → (l.getD j default).i ≠ key)) (fun i _ => n - (intOf i).toNat)
    case atStart => exact ⟨0, Nat.zero_le _, rfl, f1, by first | exact Lib.hid rfl | exact Lib.hid trivial, fun j hj => absurd hj (by omega)⟩
    case round =>
      obtain ⟨k, hk, rfl, hbl, hww, hall⟩ := hrel
      have hw1 := hww.out
      subst hw1
      by_cases hlt : k < n
      · obtain ⟨b, off, rfl, hb, hcell⟩ := sl_jobs HS.out (by omega)
        obtain ⟨h0, h1, h2, h3, h4⟩ := hcell k hlt
        clear hcell
        rw [← hbl.cell (by exact hb)] at h0 h1 h2 h3 h4
        generalize hpk : l.getD k default = pk at h0 h1 h2 h3 h4
        obtain ⟨x0, x1, x2, x3, x4⟩ := pk
        simp only at h0 h1 h2 h3 h4
        have H := Lib.hid hpk
        clear hpk
        have hbr : b < wr.heap.size := Nat.lt_of_lt_of_le hb hbl.size
        by_cases hx : x0 = key
        · subst hx
          have hva : jobAtV l x0 = (⟨x0, x1, x2, x3, x4⟩, true) := by rw [jobAtV_some (hL.out.symm ▸ hlt) hall.out (by rw [H.out]), H.out]
          have HV := Lib.hid hva
          clear hva
          have K1 := K1.out
          have lt1 := K1.lt
          have q0 : wr.cell? ⟨w.heap.size, 0, none⟩ = some (.int .i64 0) := K1.cell 0
          have q1 : wr.cell? ⟨w.heap.size, 1, none⟩ = some (.int .i64 0) := K1.cell 1
          have q2 : wr.cell? ⟨w.heap.size, 2, none⟩ = some (.int .i64 0) := K1.cell 2
          have q3 : wr.cell? ⟨w.heap.size, 3, none⟩ = some (.int .i64 0) := K1.cell 3
          have q4 : wr.cell? ⟨w.heap.size, 4, none⟩ = some (.int .i64 0) := K1.cell 4
          have qf : ∀ o, wr.frozen? ⟨w.heap.size, o, none⟩ = false := fun o => K1.frozen o
          clear K1
          go_wp2
          refine bodyPost_ret (v := .tuple #[.agg #[.int .i64 x0, .int .i64 x1, .int .i64 x2, .int .i64 x3, .int .i64 x4], .bool true]) (by simp [results, Tryz.results33, go_sem, *]) rfl ⟨by rw [HV.out], by (repeat' (first | (with_reducible exact Below.refl _ _) | (with_reducible assumption) | (with_reducible refine Below.alloc ?_ ?_ _) | (with_reducible refine Below.drew ?_) | (with_reducible refine Below.setCell ?_ ?_ _) | (with_reducible refine bstep (by assumption) ?_ ?_) | (with_reducible exact Nat.le_refl _) | omega | (simp [*]; done) | (simp [*]; omega)))⟩
        · have hx' : (x0 == key) = false := by simpa using hx
          go_wp2
          exact ⟨⟨k + 1, by omega, by go_num, hbl, by first | exact Lib.hid rfl | exact Lib.hid trivial, below_uptoJ hall.out (by rw [H.out]; exact hx)⟩, by simp [intOf]; omega⟩
      · have hkn : k = n := by omega
        subst hkn
        have HV := Lib.hid (show jobAtV l key = (default, false) from jobAtV_none (hL.out.symm ▸ hall.out))
        have K1 := K1.out
        have lt1 := K1.lt
        have q0 : wr.cell? ⟨w.heap.size, 0, none⟩ = some (.int .i64 0) := K1.cell 0
        have q1 : wr.cell? ⟨w.heap.size, 1, none⟩ = some (.int .i64 0) := K1.cell 1
        have q2 : wr.cell? ⟨w.heap.size, 2, none⟩ = some (.int .i64 0) := K1.cell 2
        have q3 : wr.cell? ⟨w.heap.size, 3, none⟩ = some (.int .i64 0) := K1.cell 3
        have q4 : wr.cell? ⟨w.heap.size, 4, none⟩ = some (.int .i64 0) := K1.cell 4
        have qf : ∀ o, wr.frozen? ⟨w.heap.size, o, none⟩ = false := fun o => K1.frozen o
        clear K1
        go_wp2
        refine bodyPost_ret (v := .tuple #[.agg #[.int .i64 0, .int .i64 0, .int .i64 0, .int .i64 0, .int .i64 0], .bool false]) (by simp [results, Tryz.results33, go_sem, *]) rfl ⟨by rw [HV.out]; rfl, by (repeat' (first | (with_reducible exact Below.refl _ _) | (with_reducible assumption) | (with_reducible refine Below.alloc ?_ ?_ _) | (with_reducible refine Below.drew ?_) | (with_reducible refine Below.setCell ?_ ?_ _) | (with_reducible refine bstep (by assumption) ?_ ?_) | (with_reducible exact Nat.le_refl _) | omega | (simp [*]; done) | (simp [*]; omega)))⟩
  · have hk' : jobsB l = false := by simpa using hk
    have hv : jobAtR l key = (default, false) := by unfold jobAtR; rw [if_neg hk]
    rw [hv]
    go_enter Tryz.func33, Tryz.ntmps33
    go_wp2_with fail
    refine calls_named ?_
    rintro w0 hw0
    have K0 : Blk w0 w.heap.size 71 #[.int .i64 0, .int .i64 0, .int .i64 0, .int .i64 0, .int .i64 0] := by rw [hw0]; exact Blk.new _ _ _
    have b0 : Below w.heap.size w w0 := by rw [hw0]; (repeat' (first | (with_reducible exact Below.refl _ _) | (with_reducible assumption) | (with_reducible refine Below.alloc ?_ ?_ _) | (with_reducible refine Below.drew ?_) | (with_reducible refine Below.setCell ?_ ?_ _) | (with_reducible refine bstep (by assumption) ?_ ?_) | (with_reducible exact Nat.le_refl _) | omega | (simp [*]; done) | (simp [*]; omega)))
    clear hw0
    have c1 := specJobsOk_any A n cap l w0 (hS.below b0) hl hn
    rw [hk'] at c1
    refine c1.mono ?_
    rintro e w1 ⟨rfl, b1⟩
    have K1 := K0.below b1
    have f1 := bthen b0 b1
    clear c1 hk hk' hv
    have lt1 := K1.lt
    have q0 : w1.cell? ⟨w.heap.size, 0, none⟩ = some (.int .i64 0) := K1.cell 0
    have q1 : w1.cell? ⟨w.heap.size, 1, none⟩ = some (.int .i64 0) := K1.cell 1
    have q2 : w1.cell? ⟨w.heap.size, 2, none⟩ = some (.int .i64 0) := K1.cell 2
    have q3 : w1.cell? ⟨w.heap.size, 3, none⟩ = some (.int .i64 0) := K1.cell 3
    have q4 : w1.cell? ⟨w.heap.size, 4, none⟩ = some (.int .i64 0) := K1.cell 4
    have qf : ∀ o, w1.frozen? ⟨w.heap.size, o, none⟩ = false := fun o => K1.frozen o
    clear K1
    go_wp2
    refine bodyPost_ret (v := .tuple #[.agg #[.int .i64 0, .int .i64 0, .int .i64 0, .int .i64 0, .int .i64 0], .bool false]) (by simp [results, Tryz.results33, go_sem, *]) rfl ⟨rfl, by (repeat' (first | (with_reducible exact Below.refl _ _) | (with_reducible assumption) | (with_reducible refine Below.alloc ?_ ?_ _) | (with_reducible refine Below.drew ?_) | (with_reducible refine Below.setCell ?_ ?_ _) | (with_reducible refine bstep (by assumption) ?_ ?_) | (with_reducible exact Nat.le_refl _) | omega | (simp [*]; done) | (simp [*]; omega)))⟩
end Go.Proofs.YtokklkmibjpjnaaGreat
namespace Go.Proofs.YtokklkmibjpjnaaGreat
set_option linter.unusedSimpArgs false
set_option linter.unusedVariables false
attribute [local go_sem] n_lt2 n_lt3 n_lt4 n_le2 n_le3
open Go.RowKit
/-- The place of the first pair with this key, or the list's length. -/
def firIx (l : List Jb) (key : Int) : Nat := l.findIdx (fun p => decide (p.f = key))
def placeF (l : List Jb) (key : Int) : Int := if firIx l key < l.length then (firIx l key : Int) else -1
theorem firIx_some {l : List Jb} {key : Int} {k : Nat} (hk : k < l.length) (hj : ∀ j, j < k → (l.getD j default).f ≠ key) (h : (l.getD k default).f = key) : firIx l key = k := by
  unfold firIx
  rw [List.findIdx_eq hk]
  refine ⟨?_, fun j hjk => ?_⟩
  · have : l.getD k default = l[k] := by simp [List.getD, hk]
    rw [this] at h
    simpa using h
  · have hj' := hj j hjk
    have : l.getD j default = l[j] := by simp [List.getD, Nat.lt_trans hjk hk]
    rw [this] at hj'
    simpa using hj'
theorem firIx_none {l : List Jb} {key : Int} (hj : ∀ j, j < l.length → (l.getD j default).f ≠ key) : firIx l key = l.length := by
  unfold firIx
  rw [List.findIdx_eq_length]
  intro x hx
  obtain ⟨i, hi, rfl⟩ := List.getElem_of_mem hx
  have hj' := hj i hi
  have : l.getD i default = l[i] := by simp [List.getD, hi]
  rw [this] at hj'
  simpa using hj'
theorem placeF_some {l : List Jb} {key : Int} {k : Nat} (hk : k < l.length) (hj : ∀ j, j < k → (l.getD j default).f ≠ key) (h : (l.getD k default).f = key) : placeF l key = k := by
  unfold placeF
  rw [firIx_some hk hj h, if_pos hk]
theorem placeF_none {l : List Jb} {key : Int} (hj : ∀ j, j < l.length → (l.getD j default).f ≠ key) : placeF l key = -1 := by
  unfold placeF
  rw [firIx_none hj, if_neg (Nat.lt_irrefl _)]
theorem below_uptoF {l : List Jb} {key : Int} {k : Nat} (h : ∀ j, j < k → (l.getD j default).f ≠ key) (hk : (l.getD k default).f ≠ key) : ∀ j, j < k + 1 → (l.getD j default).f ≠ key := fun j hj => by
  rcases Nat.lt_or_ge j k with h1 | h1
  · exact h j h1
  · obtain rfl : j = k := by omega
    exact hk
attribute [local go_sem] Ext.cell Ext.frozen

theorem jobFir_any (a b c d e : Int) (w : World) :
    Calls Tryz.prog 124 #[.agg #[.int .i64 a, .int .i64 b, .int .i64 c, .int .i64 d, .int .i64 e]] w fun e' w' => e' = .returned (.int .i64 e) ∧ Below w.heap.size w w' := by
  go_enter Tryz.func124, Tryz.ntmps124
  go_wp2
  go_ret
  exact ⟨rfl, by (repeat' (first | (with_reducible exact Below.refl _ _) | (with_reducible assumption) | (with_reducible refine Below.alloc ?_ ?_ _) | (with_reducible refine Below.drew ?_) | (with_reducible refine Below.setCell ?_ ?_ _) | (with_reducible refine bstep (by assumption) ?_ ?_) | (with_reducible exact Nat.le_refl _) | omega | (simp [*]; done) | (simp [*]; omega)))⟩
set_option maxHeartbeats 400000 in
theorem isFir_any (x0 x1 x2 x3 x4 key : Int) (p q : Nat) (w : World) (hp : w.cell? ⟨p, 0, none⟩ = some (.func (.func 124) #[] #[])) (hq : w.cell? ⟨q, 0, none⟩ = some (.int .i64 key)) (hpl : p < w.heap.size) (hql : q < w.heap.size) :
    Calls Tryz.prog 136 #[.agg #[.int .i64 x0, .int .i64 x1, .int .i64 x2, .int .i64 x3, .int .i64 x4], .pointer (some ⟨p, 0, none⟩), .pointer (some ⟨q, 0, none⟩)] w fun e' w' => e' = .returned (.bool (decide (x4 = key))) ∧ Below w.heap.size w w' := by
  go_enter Tryz.func136, Tryz.ntmps136
  go_wp2
  ((refine wp_region_ext (by kernel_rfl) (by kernel_rfl) ?_); (repeat (any_goals (first | go_big_quiet_step ((go_at_call 124; exact quiet_ext (jobFir_any _ _ _ _ _ _))) | (refine wpQuiet_step (fun K hK => ?_); go_simp; split <;> (refine hK _ ?_; clear hK K)) | quiet_step ((go_at_call 124; exact quiet_ext (jobFir_any _ _ _ _ _ _)))))); (all_goals (refine wpQuiet_nil ?_; rintro _ ⟨z, rfl⟩; have hb' := z.h; generalize z.w = w1 at hb' ⊢; clear z; (first | (have hb2 := bstep hb' hb hb.size; clear hb' hcb hfb hz1 hz2 hz3 hz4 hb; have hb := hb2; clear hb2) | (have hb := hb'; clear hb')); obtain ⟨hcb, hfb, hz1, hz2, hz3, hz4⟩ := bcell hb; (try simp only [World.size_alloc, World.size_setCell, World.size_drew, Nat.lt_add_one_iff, Nat.add_assoc, Nat.reduceAdd] at hz1 hz2 hz3 hz4))))
  all_goals go_wp2
  all_goals go_ret
  all_goals exact ⟨ret_bool (by (first | rfl | (simp [*]; done) | (subst_vars; simp [*]; done) | (simp_all; done))), by (repeat' (first | (with_reducible exact Below.refl _ _) | (with_reducible assumption) | (with_reducible refine Below.alloc ?_ ?_ _) | (with_reducible refine Below.drew ?_) | (with_reducible refine Below.setCell ?_ ?_ _) | (with_reducible refine bstep (by assumption) ?_ ?_) | (with_reducible exact Nat.le_refl _) | omega | (simp [*]; done) | (simp [*]; omega)))⟩
set_option maxHeartbeats 800000 in
theorem indexFir_any (A : Option Addr) (n cap : Nat) (l : List Jb) (key : Int) (p q : Nat) (w : World) (hS : Sl w 5 A n (JB l)) (hl : l.length = n) (hn : n ≤ maxLen)
    (hp : w.cell? ⟨p, 0, none⟩ = some (.func (.func 124) #[] #[])) (hq : w.cell? ⟨q, 0, none⟩ = some (.int .i64 key)) (hpl : p < w.heap.size) (hql : q < w.heap.size) :
    Calls Tryz.prog 135 #[.slice A n cap, .func (.func 136) #[] #[.pointer (some ⟨p, 0, none⟩), .pointer (some ⟨q, 0, none⟩)]] w fun e' w' => e' = .returned (.int .i64 (placeF l key)) ∧ Below w.heap.size w w' := by
  unfold maxLen at hn
  have hL := Lib.hid hl
  have HS := Lib.hid hS
  have HP := Lib.hid hp
  have HQ := Lib.hid hq
  clear hl hS hp hq
  go_enter Tryz.func135, Tryz.ntmps135
  go_wp2
  go_loopw [8] (fun i wr => ∃ k : Nat, k ≤ n ∧ i = .int .i64 k ∧ Below w.heap.size w wr ∧ Hid (∀ j, j < k → (l.getD j default).f ≠ key)) (fun i _ => n - (intOf i).toNat)
  case atStart => exact ⟨0, Nat.zero_le _, rfl, Below.refl _ _, fun j hj => absurd hj (by omega)⟩
  case round =>
    obtain ⟨k, hk, rfl, hbl, hall⟩ := hrel
    by_cases hlt : k < n
    · obtain ⟨b, off, rfl, hb, hcell⟩ := sl_jobs HS.out (by omega)
      obtain ⟨h0, h1, h2, h3, h4⟩ := hcell k hlt
      clear hcell
      rw [← hbl.cell (by exact hb)] at h0 h1 h2 h3 h4
      generalize hpk : l.getD k default = pk at h0 h1 h2 h3 h4
      obtain ⟨x, x1, x2, x3, x4⟩ := pk
      simp only at h0 h1 h2 h3 h4
      have H := Lib.hid hpk
      clear hpk
      have hbr : b < wr.heap.size := Nat.lt_of_lt_of_le hb hbl.size
      have c1 := isFir_any x x1 x2 x3 x4 key p q wr ((hbl.cell (p := ⟨p, 0, none⟩) hpl).trans HP.out) ((hbl.cell (p := ⟨q, 0, none⟩) hql).trans HQ.out) (Nat.lt_of_lt_of_le hpl hbl.size) (Nat.lt_of_lt_of_le hql hbl.size)
      by_cases hx : x4 = key
      · simp only [hx, decide_true] at c1
        subst hx
        go_wp2_with fail
        refine c1.mono ?_
        rintro e w1 ⟨rfl, b1⟩
        go_wp2
        go_ret
        exact ⟨ret_int (placeF_some (hL.out.symm ▸ hlt) hall.out (by rw [H.out])).symm, bstep b1 hbl hbl.size⟩
      · simp only [hx, decide_false] at c1
        go_wp2_with fail
        refine c1.mono ?_
        rintro e w1 ⟨rfl, b1⟩
        go_wp2
        exact ⟨⟨k + 1, by omega, by go_num, bstep b1 hbl hbl.size, below_uptoF hall.out (by rw [H.out]; exact hx)⟩, by simp [intOf]; omega⟩
    · have hkn : k = n := by omega
      subst hkn
      go_wp2
      go_ret
      exact ⟨ret_int (placeF_none (hL.out.symm ▸ hall.out)).symm, hbl⟩
set_option maxHeartbeats 400000 in
theorem placeFir_any (A : Option Addr) (n cap : Nat) (l : List Jb) (key : Int) (w : World) (hS : Sl w 5 A n (JB l)) (hl : l.length = n) (hn : n ≤ maxLen) :
    Calls Tryz.prog 122 #[.slice A n cap, .int .i64 key, .func (.func 124) #[] #[]] w fun e' w' => e' = .returned (.int .i64 (placeF l key)) ∧ Below w.heap.size w w' := by
  generalize hv : placeF l key = v
  go_enter Tryz.func122, Tryz.ntmps122
  go_wp2_with fail
  refine calls_named ?_
  rintro w1 hw1
  have b1 : Below w.heap.size w w1 := by rw [hw1]; (repeat' (first | (with_reducible exact Below.refl _ _) | (with_reducible assumption) | (with_reducible refine Below.alloc ?_ ?_ _) | (with_reducible refine Below.drew ?_) | (with_reducible refine Below.setCell ?_ ?_ _) | (with_reducible refine bstep (by assumption) ?_ ?_) | (with_reducible exact Nat.le_refl _) | omega | (simp [*]; done) | (simp [*]; omega)))
  have hq : w1.cell? ⟨w.heap.size, 0, none⟩ = some (.int .i64 key) := by rw [hw1]; simp [go_sem]
  have hp : w1.cell? ⟨w.heap.size + 1, 0, none⟩ = some (.func (.func 124) #[] #[]) := by rw [hw1]; simp [go_sem]
  have hs : w1.heap.size = w.heap.size + 2 := by rw [hw1]; simp
  clear hw1
  have c1 := indexFir_any A n cap l key (w.heap.size + 1) w.heap.size w1 (hS.below b1) hl hn hp hq (by omega) (by omega)
  rw [hv] at c1
  refine c1.mono ?_
  rintro e w2 ⟨rfl, b2⟩
  go_wp2
  go_ret
  exact ⟨rfl, bthen b1 b2⟩
end Go.Proofs.YtokklkmibjpjnaaGreat
namespace Go.Proofs.YtokklkmibjpjnaaGreat
set_option linter.unusedSimpArgs false
set_option linter.unusedVariables false
attribute [local go_sem] n_lt2 n_lt3 n_lt4 n_le2 n_le3
open Go.RowKit

theorem zero_Pair (w : World) : (zeroValue 106).run Tryz.prog w = .ok (.agg #[.int .i64 0, .int .i64 0]) w := by kernel_rfl
set_option maxRecDepth 100000 in
set_option maxHeartbeats 2000000 in
theorem deletePair_at (g lo n cap k j : Nat) (cs : Array Value) (news : List Value) (w : World) (K : Blk w g 106 cs) (hlo : lo ≤ g) (hcs : cs.size = cap * 2) (hkj : j = k + 1) (hjn : j ≤ n) (hnc : n ≤ cap) (hcm : cap ≤ maxLen)
    (hnl : news.length = (n - j) * 2) (hnw : ∀ t u, news[t]? = some u → cs[j * 2 + t]? = some u) (h1 : ∀ u ∈ news, u.oneCell' = true) :
    Calls Tryz.prog 118 #[.slice (some ⟨g, 0, none⟩) n cap, .int .i64 (k : Nat), .int .i64 (j : Nat)] w fun e w' => e = .returned (.slice (some ⟨g, 0, none⟩) (k + (n - j)) cap) ∧
      Blk w' g 106 (over (over cs (k * 2) news) ((k + (n - j)) * 2) (zeros ((n - (k + (n - j))) * 2))) ∧ Below lo w w' := by
  unfold maxLen at hcm
  obtain ⟨i0, hi0, hz0, hs0, hy0⟩ := info_parts info_Pair
  obtain ⟨A, hA, hsrc⟩ : ∃ A : Addr, (if cap = j then some (⟨g, 0, none⟩ : Addr) else some ⟨g, j * 2, none⟩) = some A ∧ Hid (∀ t u, news[t]? = some u → w.drew.cell? (A.add t) = some u) := by
    by_cases h : cap = j
    · refine ⟨⟨g, 0, none⟩, by simp [h], fun t u hu => ?_⟩
      have h0 : news.length = 0 := by rw [hnl]; omega
      rw [List.length_eq_zero_iff.1 h0] at hu
      simp at hu
    · refine ⟨⟨g, j * 2, none⟩, by simp [h], fun t u hu => ?_⟩
      have : (⟨g, j * 2, none⟩ : Addr).add t = ⟨g, j * 2 + t, none⟩ := by unfold Addr.add; split <;> simp_all
      rw [this]
      exact (K.drew.cell _).trans (hnw t u hu)
  have s1 : Hid (news.length = (n - j) * 2) := hnl
  have s2 : Hid (∀ u ∈ news, u.oneCell' = true) := h1
  have s3 : Hid (∀ t, t < news.length → (w.drew.cell? ⟨g, 0 + k * 2 + t, none⟩).isSome = true ∧ w.drew.frozen? ⟨g, 0 + k * 2 + t, none⟩ = false) := by
    intro t ht
    obtain ⟨c, hc⟩ := K.drew.has (i := 0 + k * 2 + t) (by omega)
    exact ⟨by rw [hc]; rfl, K.drew.frozen _⟩
  obtain ⟨W1, hW1⟩ : ∃ W1, W1 = w.drew.setCells g (0 + k * 2) news := ⟨_, rfl⟩
  have K1 : Blk W1 g 106 (over cs (k * 2) news) := by rw [hW1, Nat.zero_add]; exact Blk.over _ _ _ _ K.drew
  have b1 : Below lo w W1 := by rw [hW1]; exact below_setCells hlo _ _ _ (Below.drew (Below.refl _ _))
  have hsz1 : (over cs (k * 2) news).size = cap * 2 := by rw [over_size, hcs]
  have hcl : ∀ ty, (Builtin.clear_ #[33] ty #[.slice (some ⟨g, (k + (n - j)) * 2, none⟩) (n - (k + (n - j))) (cap - (k + (n - j)))]).run Tryz.prog W1 = .ok (.tuple #[]) (W1.setCells g ((k + (n - j)) * 2) (zeros ((n - (k + (n - j))) * 2))) :=
    fun ty => run_clear_flat W1 _ _ ty _ 2 Tryz.underlying33 zero_Pair rfl g ((k + (n - j)) * 2) _ _ (by omega)
      (fun t ht => by obtain ⟨c, hc⟩ := K1.has (i := (k + (n - j)) * 2 + t) (by omega); rw [hc]; rfl) (fun t _ => K1.frozen _)
  have hW : Hid (W1 = w.drew.setCells g (0 + k * 2) news) := hW1
  have HF := Lib.hid (And.intro K1 b1)
  have hlt : k < j := by omega
  have hkn : k ≤ n := by omega
  have hkc : k ≤ cap := by omega
  have hjc : j ≤ cap := by omega
  have hne : ¬ (k : Int) = (j : Int) := by omega
  clear hW1 hnl hnw h1 K K1 b1 hsz1 hcs hkj
  go_enter Tryz.func118, Tryz.ntmps118
  go_wp2_with fail
  go_region_law (refine step_append_room rfl (.tmp 22) (.tmp 25) 33 rfl 106 i0 2 Tryz.underlying33 hi0 hs0 g 0 k cap (by simp [Act.eval, Act.put]) A (n - j) (cap - j) news (by simp [Act.eval, Act.put]) s1.out hsrc.out s2.out (by omega) s3.out ?_; rw [← hW.out])
  go_wp2
  go_ret
  exact ⟨rfl, Blk.over _ _ _ _ HF.out.1, below_setCells hlo _ _ _ HF.out.2⟩
/-- Delete of element k: the row without it. -/
theorem deletePair_any (lo : Nat) (A : Option Addr) (n cap k : Nat) (zs : List Int) (w : World) (R : Row w lo 106 2 A n cap zs) (hk : k < n) :
    Calls Tryz.prog 118 #[.slice A n cap, .int .i64 (k : Nat), .int .i64 ((k + 1 : Nat) : Int)] w fun e w' => e = .returned (.slice A (n - 1) cap) ∧ Row w' lo 106 2 A (n - 1) cap (zs.take (k * 2) ++ zs.drop (k * 2 + 2)) ∧ Below lo w w' := by
  obtain ⟨g, cs, rfl, hlo, K, hnc, hcm, hcs, hj⟩ := R.blk (by omega)
  have hzl := R.len
  have hnl : (ints (zs.drop (k * 2 + 2))).length = (n - (k + 1)) * 2 := by rw [ints_length, List.length_drop]; omega
  refine (deletePair_at g lo n cap k (k + 1) cs (ints (zs.drop (k * 2 + 2))) w K hlo hcs rfl (by omega) hnc hcm hnl (fun t u hu => ?_) (ints_oneCell' _)).mono ?_
  · have ht : t < (zs.drop (k * 2 + 2)).length := by
      have := (List.getElem?_eq_some_iff.1 hu).1
      rwa [ints_length] at this
    rw [ints_get _ t ht] at hu
    rw [List.length_drop] at ht
    rw [hj _ (by omega), ← hu, getD_drop]
    congr 3
    omega
  · rintro e w' ⟨rfl, K', b'⟩
    have e1 : k + (n - (k + 1)) = n - 1 := by omega
    rw [e1] at K' ⊢
    refine ⟨rfl, Row.of_blk K' hlo (by omega) hcm (by rw [over_size, over_size, hcs]) (by simp; omega) (fun t ht => ?_), b'⟩
    rw [over_out _ _ _ _ (.inl (by omega))]
    by_cases h1 : t < k * 2
    · rw [over_out _ _ _ _ (.inl h1), hj t (by omega), getD_append_l _ _ _ (by simp; omega), getD_take _ _ _ h1]
    · have e2 : t = k * 2 + (t - k * 2) := by omega
      rw [e2, over_in _ _ _ _ (by rw [hnl]; omega) (by rw [hnl]; omega), ints_get _ _ (by rw [List.length_drop]; omega), ← e2, getD_append_r _ _ _ (by simp; omega)]
      congr 3
      simp
      omega
end Go.Proofs.YtokklkmibjpjnaaGreat
namespace Go.Proofs.YtokklkmibjpjnaaGreat
set_option linter.unusedSimpArgs false
set_option linter.unusedVariables false
attribute [local go_sem] n_lt2 n_lt3 n_lt4 n_le2 n_le3
open Go.RowKit

theorem Row.nil_of {w : World} {lo : Nat} {e : TypeId} {s : Nat} {A : Option Addr} {n cap : Nat} {zs : List Int} (h : Row w lo e s A n cap zs) : A = none → n = 0 ∧ cap = 0 := fun hA => by
  rcases h.2 with ⟨hv, h0⟩ | ⟨g, c, cur, hv, _⟩
  · injection hv with _ _ hc
    exact ⟨h0, hc⟩
  · injection hv with h1
    rw [hA] at h1
    cases h1
theorem PR_erase (l : List Pr) (k : Nat) : PR (l.eraseIdx k) = (PR l).take (k * 2) ++ (PR l).drop (k * 2 + 2) := by
  induction l generalizing k with
  | nil => simp [PR]
  | cons p l ih =>
    cases k with
    | zero => simp [PR]
    | succ k =>
      have := ih k
      rw [List.eraseIdx_cons_succ]
      have e1 : (k + 1) * 2 = k * 2 + 1 + 1 := by omega
      have e2 : (k + 1) * 2 + 2 = (k * 2 + 2) + 1 + 1 := by omega
      rw [e2, e1]
      simp only [PR, List.flatMap_cons, List.cons_append, List.nil_append, List.take_succ_cons, List.drop_succ_cons] at this ⊢
      rw [this]
theorem cutL_hit {l : List Pr} {key : Int} (h : pairsB l = true) (hk : keyIx l key < l.length) : (cutL l key).length = l.length - 1 := by
  rw [cutL_erase key h, List.length_eraseIdx, if_pos hk]
theorem cutL_miss {l : List Pr} {key : Int} (hk : ¬ keyIx l key < l.length) : cutL l key = l := by
  refine cutL_all (fun p hp hpk => hk ?_)
  unfold keyIx
  exact List.findIdx_lt_length_of_exists ⟨p, hp, by simpa using hpk⟩
attribute [local go_sem] Ext.cell Ext.frozen

set_option maxRecDepth 100000 in
set_option maxHeartbeats 2000000 in
theorem cutOut_any (A : Option Addr) (n cap : Nat) (l : List Pr) (key : Int) (w : World) (hS : Sl w 2 A n (PR l)) (hl : l.length = n) (hn : n ≤ maxLen) (hA : A = none → n = 0 ∧ cap = 0) :
    Calls Tryz.prog 100 #[.slice A n cap, .int .i64 key] w (if pairsB l = true then RetRowB w 106 2 (cutL l key).length (PR (cutL l key)) (decide ((cutL l key).length < n)) else RetRowB w 106 2 0 [] false) := by
  have c1 := pairsOk_any A n cap l w hS hl hn
  by_cases hpa : pairsB l = true
  · have h10 : n ≤ 10 := by have := pairsB_len hpa; omega
    rw [if_pos hpa]
    rw [hpa] at c1
    by_cases hk : keyIx l key < l.length
    · have ha : keyAt l key = (keyIx l key : Int) := by unfold keyAt; rw [if_pos hk]
      have hc1 := cutL_hit hpa hk
      have hc2 := cutL_erase key hpa
      have HC := Lib.hid (And.intro hc1 hc2)
      obtain ⟨k, hkk⟩ : ∃ k, k = keyIx l key := ⟨_, rfl⟩
      have HK := Lib.hid hkk
      rw [← hkk] at ha hk
      have Ha := Lib.hid ha
      have HL := Lib.hid hl
      have HS := Lib.hid hS
      have hkn : k < n := by omega
      clear hc1 hc2 hkk ha hpa hl hS hk
      go_enter Tryz.func100, Tryz.ntmps100
      go_wp2_with fail
      refine c1.mono ?_
      rintro e w1 ⟨rfl, b1⟩
      have c2 := copyPairs_any A n cap l w1 (HS.out.below b1) HL.out (by omega) hA
      go_wp2_with fail
      refine c2.mono ?_
      rintro e w2 ⟨A2, cap2, rfl, R2, b2⟩
      have c3 := placePair_any A2 n cap2 l key w2 R2.sl HL.out (by unfold maxLen; omega)
      rw [Ha.out] at c3
      go_wp2_with fail
      refine c3.mono ?_
      rintro e w3 ⟨rfl, b3⟩
      have R3 := R2.below b3
      have hkn' : (k : Int) < (n : Int) := by omega
      go_wp2_with fail
      refine (deletePair_any w1.heap.size A2 n cap2 k (PR l) w3 R3 hkn).mono ?_
      rintro e w4 ⟨rfl, R4, b4⟩
      go_wp2
      refine bodyPost_ret (v := .tuple #[.slice A2 (n - 1) cap2, .bool true]) (by simp [results, Tryz.results100, go_sem, *]) rfl ?_
      rw [HC.out.2, ← HK.out, PR_erase]
      have e1 : (l.eraseIdx k).length = n - 1 := by rw [HK.out, ← HC.out.2, HC.out.1, HL.out]
      rw [e1, decide_eq_true (by omega)]
      refine ⟨A2, cap2, rfl, R4.mono b1.size, ?_⟩
      exact (bthen b1 (bthen b2 b3)).trans (b4.mono b1.size)
    · have ha : keyAt l key = -1 := by unfold keyAt; rw [if_neg hk]
      have HC := Lib.hid (cutL_miss hk)
      have Ha := Lib.hid ha
      have HL := Lib.hid hl
      have HS := Lib.hid hS
      clear ha hpa hl hS hk
      go_enter Tryz.func100, Tryz.ntmps100
      go_wp2_with fail
      refine c1.mono ?_
      rintro e w1 ⟨rfl, b1⟩
      have c2 := copyPairs_any A n cap l w1 (HS.out.below b1) HL.out (by omega) hA
      go_wp2_with fail
      refine c2.mono ?_
      rintro e w2 ⟨A2, cap2, rfl, R2, b2⟩
      have c3 := placePair_any A2 n cap2 l key w2 R2.sl HL.out (by unfold maxLen; omega)
      rw [Ha.out] at c3
      go_wp2_with fail
      refine c3.mono ?_
      rintro e w3 ⟨rfl, b3⟩
      have R3 := R2.below b3
      go_wp2
      refine bodyPost_ret (v := .tuple #[.slice A2 n cap2, .bool false]) (by simp [results, Tryz.results100, go_sem, *]) rfl ?_
      rw [HC.out, HL.out, decide_eq_false (by omega)]
      exact ⟨A2, cap2, rfl, R3.mono b1.size, bthen b1 (bthen b2 b3)⟩
  · have hpa' : pairsB l = false := by simpa using hpa
    rw [if_neg hpa]
    rw [hpa'] at c1
    go_enter Tryz.func100, Tryz.ntmps100
    go_wp2_with fail
    refine c1.mono ?_
    rintro e w1 ⟨rfl, b1⟩
    go_wp2
    refine bodyPost_ret (v := .tuple #[.slice none 0 0, .bool false]) (by simp [results, Tryz.results100, go_sem, *]) rfl ⟨_, _, rfl, Row.nil _ _ _ _, b1⟩

/-- Both results in one: what is left, and whether a pair was cut out. -/
def cutR (l : List Pr) (key : Int) : List Pr × Bool := if pairsB l = true then (cutL l key, decide ((cutL l key).length < l.length)) else ([], false)
theorem cutR_len (l : List Pr) (key : Int) : (cutR l key).1.length ≤ 10 := by
  unfold cutR
  split
  · rename_i h
    exact Nat.le_trans (cutL_le l key) (pairsB_len h)
  · simp
theorem cutOutR_any (A : Option Addr) (n cap : Nat) (l : List Pr) (key : Int) (w : World) (hS : Sl w 2 A n (PR l)) (hl : l.length = n) (hn : n ≤ maxLen) (hA : A = none → n = 0 ∧ cap = 0) :
    Calls Tryz.prog 100 #[.slice A n cap, .int .i64 key] w (RetRowB w 106 2 (cutR l key).1.length (PR (cutR l key).1) (cutR l key).2) := by
  have c := cutOut_any A n cap l key w hS hl hn hA
  unfold cutR
  subst hl
  split at c
  · rename_i h
    rw [if_pos h]
    exact c
  · rename_i h
    rw [if_neg h]
    exact c
theorem specCutOutR_any (A : Option Addr) (n cap : Nat) (l : List Pr) (key : Int) (w : World) (hS : Sl w 2 A n (PR l)) (hl : l.length = n) (hn : n ≤ maxLen) :
    Calls Tryz.prog 30 #[.slice A n cap, .int .i64 key] w (RetRowB w 106 2 (cutR l key).1.length (PR (cutR l key).1) (cutR l key).2) := by
  have c := specCutOut_any A n cap l key w hS hl hn
  unfold cutR
  subst hl
  split at c
  · rename_i h
    rw [if_pos h]
    exact c
  · rename_i h
    rw [if_neg h]
    exact c
end Go.Proofs.YtokklkmibjpjnaaGreat
namespace Go.Proofs.YtokklkmibjpjnaaGreat
set_option linter.unusedSimpArgs false
set_option linter.unusedVariables false
attribute [local go_sem] n_lt2 n_lt3 n_lt4 n_le2 n_le3
open Go.RowKit
attribute [local go_sem] Ext.cell Ext.frozen

set_option maxRecDepth 100000 in
set_option maxHeartbeats 800000 in
theorem copyJobs_any (A : Option Addr) (n cap : Nat) (l : List Jb) (w : World) (hS : Sl w 5 A n (JB l)) (hl : l.length = n) (hn : n ≤ 1000) (hA : A = none → n = 0 ∧ cap = 0) :
    Calls Tryz.prog 81 #[.slice A n cap] w (RetRow w 71 5 n (JB l)) := by
  have R0 : Row (w.alloc (.cells #[] 71)) w.heap.size 71 5 (some ⟨w.heap.size, 0, none⟩) 0 0 [] := row0p (Blk.new w _ _) (Nat.le_refl _)
  have hnw := fun ad (h : A = some ad) => sl_news (hS.below ((Below.refl w.heap.size w).alloc (Nat.le_refl _) (.cells #[] 71))) h
  have hPl : (JB l).length = n * 5 := by rw [JB_len, hl]
  cases A with
  | none =>
    obtain ⟨rfl, rfl⟩ := hA rfl
    have hz : JB l = [] := List.eq_nil_of_length_eq_zero (by omega)
    rw [hz]
    obtain ⟨i0, hi0, hz0, hs0, hy0⟩ := info_parts info_Job
    clear hnw hS hA hPl
    go_enter Tryz.func81, Tryz.ntmps81
    go_wp2_with (at_builtin; refine wpList_append_own_none rfl _ _ 34 rfl w.heap.size 71 i0 5 Tryz.underlying34 hi0 (.slice (some ⟨w.heap.size, 0, none⟩) 0 0) 0 [] rfl R0 rfl ?_)
    go_ret
    exact RetRow.mk R0 (by (repeat' (first | (with_reducible exact Below.refl _ _) | (with_reducible assumption) | (with_reducible refine Below.alloc ?_ ?_ _) | (with_reducible refine Below.drew ?_) | (with_reducible refine Below.setCell ?_ ?_ _) | (with_reducible refine bstep (by assumption) ?_ ?_) | (with_reducible exact Nat.le_refl _) | omega | (simp [*]; done) | (simp [*]; omega))))
  | some ad =>
    have hnw' := Lib.hid (hnw ad rfl)
    clear hnw hS hA
    go_enter Tryz.func81, Tryz.ntmps81
    go_wp2_with (at_builtin; refine wpList_append_row rfl _ _ 34 rfl 71 (.agg #[.int .i64 0, .int .i64 0, .int .i64 0, .int .i64 0, .int .i64 0]) 5 40 Tryz.underlying34 info_Job (by first | kernel_rfl | simp [Value.cells]) (by decide) w.heap.size (some ⟨w.heap.size, 0, none⟩) 0 0 [] rfl R0 ad n cap (JB l) rfl hPl hnw'.out (by unfold maxLen; omega) (by omega) (by simp) ?_; intro A5 c5 w5 R5 B5)
    go_ret
    simp only [Nat.zero_add, List.nil_append] at R5 ⊢
    exact RetRow.mk R5 (((Below.refl w.heap.size w).alloc (Nat.le_refl _) _).trans B5)
set_option maxRecDepth 100000 in
set_option maxHeartbeats 800000 in
theorem l15Copy_any (A : Option Addr) (n cap : Nat) (l : List Jb) (w : World) (hS : Sl w 5 A n (JB l)) (hl : l.length = n) (hn : n ≤ 1000) (hA : A = none → n = 0 ∧ cap = 0) :
    Calls Tryz.prog 66 #[.slice A n cap] w (RetRow w 71 5 n (JB l)) := by
  have R0 : Row (w.alloc (.cells #[] 71)) w.heap.size 71 5 (some ⟨w.heap.size, 0, none⟩) 0 0 [] := row0p (Blk.new w _ _) (Nat.le_refl _)
  have hnw := fun ad (h : A = some ad) => sl_news (hS.below ((Below.refl w.heap.size w).alloc (Nat.le_refl _) (.cells #[] 71))) h
  have hPl : (JB l).length = n * 5 := by rw [JB_len, hl]
  cases A with
  | none =>
    obtain ⟨rfl, rfl⟩ := hA rfl
    have hz : JB l = [] := List.eq_nil_of_length_eq_zero (by omega)
    rw [hz]
    obtain ⟨i0, hi0, hz0, hs0, hy0⟩ := info_parts info_Job
    clear hnw hS hA hPl
    go_enter Tryz.func66, Tryz.ntmps66
    go_wp2_with (at_builtin; refine wpList_append_own_none rfl _ _ 34 rfl w.heap.size 71 i0 5 Tryz.underlying34 hi0 (.slice (some ⟨w.heap.size, 0, none⟩) 0 0) 0 [] rfl R0 rfl ?_)
    go_ret
    exact RetRow.mk R0 (by (repeat' (first | (with_reducible exact Below.refl _ _) | (with_reducible assumption) | (with_reducible refine Below.alloc ?_ ?_ _) | (with_reducible refine Below.drew ?_) | (with_reducible refine Below.setCell ?_ ?_ _) | (with_reducible refine bstep (by assumption) ?_ ?_) | (with_reducible exact Nat.le_refl _) | omega | (simp [*]; done) | (simp [*]; omega))))
  | some ad =>
    have hnw' := Lib.hid (hnw ad rfl)
    clear hnw hS hA
    go_enter Tryz.func66, Tryz.ntmps66
    go_wp2_with (at_builtin; refine wpList_append_row rfl _ _ 34 rfl 71 (.agg #[.int .i64 0, .int .i64 0, .int .i64 0, .int .i64 0, .int .i64 0]) 5 40 Tryz.underlying34 info_Job (by first | kernel_rfl | simp [Value.cells]) (by decide) w.heap.size (some ⟨w.heap.size, 0, none⟩) 0 0 [] rfl R0 ad n cap (JB l) rfl hPl hnw'.out (by unfold maxLen; omega) (by omega) (by simp) ?_; intro A5 c5 w5 R5 B5)
    go_ret
    simp only [Nat.zero_add, List.nil_append] at R5 ⊢
    exact RetRow.mk R5 (((Below.refl w.heap.size w).alloc (Nat.le_refl _) _).trans B5)
theorem open_any (a b c d e : Int) (w : World) :
    Calls Tryz.prog 119 #[.agg #[.int .i64 a, .int .i64 b, .int .i64 c, .int .i64 d, .int .i64 e]] w fun e' w' => e' = .returned (.bool (decide (e = 0))) ∧ Below w.heap.size w w' := by
  go_enter Tryz.func119, Tryz.ntmps119
  go_wp2
  go_ret
  exact ⟨ret_bool (by by_cases h : e = 0 <;> simp [h]), by (repeat' (first | (with_reducible exact Below.refl _ _) | (with_reducible assumption) | (with_reducible refine Below.alloc ?_ ?_ _) | (with_reducible refine Below.drew ?_) | (with_reducible refine Below.setCell ?_ ?_ _) | (with_reducible refine bstep (by assumption) ?_ ?_) | (with_reducible exact Nat.le_refl _) | omega | (simp [*]; done) | (simp [*]; omega)))⟩
theorem indexOk_any (x : Int) (w : World) :
    Calls Tryz.prog 93 #[.int .i64 x] w fun e w' => e = .returned (.bool (inB x 1 2000)) ∧ w = w' := by
  go_enter Tryz.func93, Tryz.ntmps93
  go_wp2_with ((go_at_call 74; refine (between_any _ _ _ _).mono ?_; rintro e w' ⟨rfl, rfl⟩))
  go_ret; exact ⟨rfl, rfl⟩
def RetJobs (w : World) (r : List Jb × Bool) (e : Ending) (w' : World) : Prop := RetRowB w 71 5 r.1.length (JB r.1) r.2 e w'
theorem retJobs {w w' : World} {r : List Jb × Bool} {l' : List Jb} {A : Option Addr} {n cap : Nat} {b : Bool} (h : r = (l', b)) (hn : n = l'.length) (R : Row w' w.heap.size 71 5 A n cap (JB l')) (hb : Below w.heap.size w w') :
    RetJobs w r (.returned (.tuple #[.slice A n cap, .bool b])) w' := by
  unfold RetJobs
  rw [h]
  subst hn
  exact ⟨A, cap, rfl, R, hb⟩
theorem firedSet_row {w : World} {g lo n cap k : Nat} {cs : Array Value} {l : List Jb} {v : Int} (K : Blk w g 71 cs) (hlo : lo ≤ g) (hnc : n ≤ cap) (hcm : cap ≤ maxLen) (hcs : cs.size = cap * 5) (hl : l.length = n) (hj : ∀ j, j < n * 5 → cs[j]? = some (.int .i64 ((JB l).getD j 0)))
    (hk : k < n) : Row (w.setCell ⟨g, k * 5 + 4, none⟩ (.int .i64 v)) lo 71 5 (some ⟨g, 0, none⟩) n cap (JB (firedSet l k v)) := by
  refine Row.of_blk (K.set_ _ _) hlo hnc hcm (by simpa using hcs) (by rw [JB_len]; simp [firedSet]; omega) (fun t ht => ?_)
  rw [JB_fired_getD l k v (by omega) t (by omega)]
  by_cases h : t = k * 5 + 4
  · subst h
    rw [if_pos rfl, Array.getElem?_setIfInBounds_self_of_lt (by omega)]
  · rw [if_neg h, Array.getElem?_setIfInBounds_ne (by omega), hj t ht]
theorem Row.cells5 {w : World} {lo : Nat} {A : Option Addr} {n cap : Nat} {l : List Jb} (R : Row w lo 71 5 A n cap (JB l)) (hl : l.length = n) (hn : 0 < n) :
    ∃ g cs, A = some ⟨g, 0, none⟩ ∧ lo ≤ g ∧ Blk w g 71 cs ∧ cs.size = cap * 5 ∧ (∀ j, j < n * 5 → cs[j]? = some (.int .i64 ((JB l).getD j 0))) ∧
      ∀ i, i < n → w.cell? ⟨g, i * 5, none⟩ = some (.int .i64 (l.getD i default).i) ∧ w.cell? ⟨g, i * 5 + 1, none⟩ = some (.int .i64 (l.getD i default).d) ∧ w.cell? ⟨g, i * 5 + 2, none⟩ = some (.int .i64 (l.getD i default).k) ∧ w.cell? ⟨g, i * 5 + 3, none⟩ = some (.int .i64 (l.getD i default).v) ∧ w.cell? ⟨g, i * 5 + 4, none⟩ = some (.int .i64 (l.getD i default).f) := by
  obtain ⟨g, cs, hA, hlo, K, _, _, hcs, hj⟩ := R.blk hn
  have hg : ∀ i, i < n → ∀ j, j < 5 → w.cell? ⟨g, i * 5 + j, none⟩ = some (.int .i64 ([(l.getD i default).i, (l.getD i default).d, (l.getD i default).k, (l.getD i default).v, (l.getD i default).f].getD j 0)) := fun i hi j hj' => by
    rw [K.cell, hj _ (by omega), JB_get l i j (by omega) hj']
  exact ⟨g, cs, hA, hlo, K, hcs, hj, fun i hi => ⟨hg i hi 0 (by decide), hg i hi 1 (by decide), hg i hi 2 (by decide), hg i hi 3 (by decide), hg i hi 4 (by decide)⟩⟩

set_option maxRecDepth 100000 in
set_option maxHeartbeats 4000000 in
theorem jobFired_walk (A : Option Addr) (n cap : Nat) (l : List Jb) (id x : Int) (w : World) (hS : Sl w 5 A n (JB l)) (hl : l.length = n) (hn : n ≤ maxLen) (hA : A = none → n = 0 ∧ cap = 0) :
    Calls Tryz.prog 106 #[.slice A n cap, .int .i64 id, .int .i64 x] w (RetJobs w (firedR l id x)) := by
  have c1 := jobsOk_any A n cap l w hS hl hn
  by_cases hpa : jobsB l = true
  · have h8 : n ≤ 8 := by have := (jobsB_all hpa).1; omega
    rw [hpa] at c1
    have HL := Lib.hid hl
    have HS := Lib.hid hS
    have HPA := Lib.hid hpa
    clear hpa hl hS
    by_cases hk : jobIx l id < l.length
    · have ha : placeJ l id = (jobIx l id : Int) := by unfold placeJ; rw [if_pos hk]
      have HK0 := Lib.hid hk
      obtain ⟨k, hkk⟩ : ∃ k, k = jobIx l id := ⟨_, rfl⟩
      rw [← hkk] at ha hk
      have HKK := Lib.hid hkk
      have HA := Lib.hid ha
      have hkn : k < n := by have := HL.out; omega
      have hkn' : (k : Int) < (n : Int) := by omega
      clear hk hkk ha
      have pre : ∀ w1, Below w.heap.size w w1 → Calls Tryz.prog 81 #[.slice A n cap] w1 (RetRow w1 71 5 n (JB l)) := fun w1 b1 => copyJobs_any A n cap l w1 (HS.out.below b1) HL.out (by omega) hA
      have PRE := Lib.hid pre
      clear pre
      by_cases hf0 : (l.getD k default).f = 0
      · by_cases hin : inB x 1 2000 = true
        · by_cases hfb : l.findIdx (fun p => decide (p.f = x)) < l.length
          · -- another job has that index
            have HF := Lib.hid (show firedR l id x = (l, false) by unfold firedR; rw [if_pos HPA.out, if_neg]; unfold firedOk; rw [firIx_hit hfb]; simp)
            have hpf : placeF l x = (firIx l x : Int) := by unfold placeF firIx; rw [if_pos hfb]
            have HPF := Lib.hid hpf
            clear hpf hfb
            generalize firIx l x = kf at HPF
            have hf0' := Lib.hid hf0
            clear hf0
            go_enter Tryz.func106, Tryz.ntmps106
            go_wp2_with fail
            refine c1.mono ?_
            rintro e w1 ⟨rfl, b1⟩
            go_wp2_with fail
            refine (PRE.out w1 b1).mono ?_
            rintro e w2 ⟨A2, cap2, rfl, R2, b2⟩
            have f2 := bthen b1 b2
            have c3 := placeJob_any A2 n cap2 l id w2 R2.sl HL.out (by unfold maxLen; omega)
            rw [HA.out] at c3
            go_wp2_with fail
            refine c3.mono ?_
            rintro e w3 ⟨rfl, b3⟩
            have R3 := (R2.below b3).mono b1.size
            have f3 := bthen f2 b3
            obtain ⟨g, cs, rfl, hlg, K, hcs, hj, hcell⟩ := R3.cells5 HL.out (by omega)
            obtain ⟨h0, h1, h2, h3, h4⟩ := hcell k hkn
            rw [hf0'.out] at h4
            have hcm : cap2 ≤ 9223372036854775807 := by have := R3.cap_le.2; unfold maxLen at this; omega
            clear hcell hj hcs
            generalize (l.getD k default).i = y0 at h0
            generalize (l.getD k default).d = y1 at h1
            generalize (l.getD k default).k = y2 at h2
            generalize (l.getD k default).v = y3 at h3
            go_wp2_with fail
            refine (open_any _ _ _ _ _ _).mono ?_
            rintro e w4 ⟨rfl, b4⟩
            have R4 := R3.below b4
            have f4 := bthen f3 b4
            go_wp2_with ((go_at_call 93; refine (indexOk_any _ _).mono ?_; rintro e w' ⟨rfl, rfl⟩))
            have c5 := placeFir_any (some ⟨g, 0, none⟩) n cap2 l x w4 R4.sl HL.out (by unfold maxLen; omega)
            rw [HPF.out] at c5
            refine c5.mono ?_
            rintro e w5 ⟨rfl, b5⟩
            have R5 := R4.below b5
            have f5 := bthen f4 b5
            go_wp2
            refine bodyPost_ret (v := .tuple #[.slice (some ⟨g, 0, none⟩) n cap2, .bool false]) (by simp [results, Tryz.results106, go_sem, *]) rfl ?_
            exact retJobs HF.out HL.out.symm R5 f5
          · have HF := Lib.hid (show firedR l id x = (firedSet l k x, true) by
              unfold firedR
              rw [if_pos HPA.out, if_pos, HKK.out]
              unfold firedOk
              rw [firIx_miss hfb, hin, ← HKK.out, decide_eq_true (by have := HL.out; omega), decide_eq_true hf0]
              rfl)
            have hpf : placeF l x = -1 := by unfold placeF firIx; rw [if_neg hfb]
            have HPF := Lib.hid hpf
            have hf0' := Lib.hid hf0
            clear hpf hfb hf0
            go_enter Tryz.func106, Tryz.ntmps106
            go_wp2_with fail
            refine c1.mono ?_
            rintro e w1 ⟨rfl, b1⟩
            go_wp2_with fail
            refine (PRE.out w1 b1).mono ?_
            rintro e w2 ⟨A2, cap2, rfl, R2, b2⟩
            have f2 := bthen b1 b2
            have c3 := placeJob_any A2 n cap2 l id w2 R2.sl HL.out (by unfold maxLen; omega)
            rw [HA.out] at c3
            go_wp2_with fail
            refine c3.mono ?_
            rintro e w3 ⟨rfl, b3⟩
            have R3 := (R2.below b3).mono b1.size
            have f3 := bthen f2 b3
            obtain ⟨g, cs, rfl, hlg, K, hcs, hj, hcell⟩ := R3.cells5 HL.out (by omega)
            obtain ⟨h0, h1, h2, h3, h4⟩ := hcell k hkn
            rw [hf0'.out] at h4
            have hcp := R3.cap_le
            have hcm : cap2 ≤ 9223372036854775807 := by have := hcp.2; unfold maxLen at this; omega
            have HJ := Lib.hid (And.intro hcs (And.intro hj hcp))
            clear hcell hj hcs hcp
            generalize (l.getD k default).i = y0 at h0
            generalize (l.getD k default).d = y1 at h1
            generalize (l.getD k default).k = y2 at h2
            generalize (l.getD k default).v = y3 at h3
            go_wp2_with fail
            refine (open_any _ _ _ _ _ _).mono ?_
            rintro e w4 ⟨rfl, b4⟩
            have R4 := R3.below b4
            have f4 := bthen f3 b4
            go_wp2_with ((go_at_call 93; refine (indexOk_any _ _).mono ?_; rintro e w' ⟨rfl, rfl⟩))
            have c5 := placeFir_any (some ⟨g, 0, none⟩) n cap2 l x w4 R4.sl HL.out (by unfold maxLen; omega)
            rw [HPF.out] at c5
            refine c5.mono ?_
            rintro e w5 ⟨rfl, b5⟩
            have K5 := (K.below b4).below b5
            have f5 := bthen f4 b5
            have hc5 : ∃ c, w5.cell? ⟨g, k * 5 + 4, none⟩ = some c := K5.has (by have := HJ.out.1; have := HJ.out.2.2.1; omega)
            obtain ⟨c, hc5⟩ := hc5
            have hfz := K5.frozen (k * 5 + 4)
            have HK5 := Lib.hid K5
            clear h0 h1 h2 h3 h4 K K5 c3 c5
            go_wp2
            refine bodyPost_ret (v := .tuple #[.slice (some ⟨g, 0, none⟩) n cap2, .bool true]) (by simp [results, Tryz.results106, go_sem, *]) rfl ?_
            exact retJobs HF.out (by simp [firedSet, HL.out]) (firedSet_row HK5.out hlg HJ.out.2.2.1 HJ.out.2.2.2 HJ.out.1 HL.out HJ.out.2.1 hkn) (f5.setCell hlg _)
        · have hin' : inB x 1 2000 = false := by simpa using hin
          have HF := Lib.hid (show firedR l id x = (l, false) by unfold firedR; rw [if_pos HPA.out, if_neg]; unfold firedOk; rw [hin']; simp)
          have hf0' := Lib.hid hf0
          clear hf0 hin
          go_enter Tryz.func106, Tryz.ntmps106
          go_wp2_with fail
          refine c1.mono ?_
          rintro e w1 ⟨rfl, b1⟩
          go_wp2_with fail
          refine (PRE.out w1 b1).mono ?_
          rintro e w2 ⟨A2, cap2, rfl, R2, b2⟩
          have f2 := bthen b1 b2
          have c3 := placeJob_any A2 n cap2 l id w2 R2.sl HL.out (by unfold maxLen; omega)
          rw [HA.out] at c3
          go_wp2_with fail
          refine c3.mono ?_
          rintro e w3 ⟨rfl, b3⟩
          have R3 := (R2.below b3).mono b1.size
          have f3 := bthen f2 b3
          obtain ⟨g, cs, rfl, hlg, K, hcs, hj, hcell⟩ := R3.cells5 HL.out (by omega)
          obtain ⟨h0, h1, h2, h3, h4⟩ := hcell k hkn
          rw [hf0'.out] at h4
          have hcm : cap2 ≤ 9223372036854775807 := by have := R3.cap_le.2; unfold maxLen at this; omega
          clear hcell hj hcs
          generalize (l.getD k default).i = y0 at h0
          generalize (l.getD k default).d = y1 at h1
          generalize (l.getD k default).k = y2 at h2
          generalize (l.getD k default).v = y3 at h3
          go_wp2_with fail
          refine (open_any _ _ _ _ _ _).mono ?_
          rintro e w4 ⟨rfl, b4⟩
          have R4 := R3.below b4
          have f4 := bthen f3 b4
          go_wp2_with ((go_at_call 93; refine (indexOk_any _ _).mono ?_; rintro e w' ⟨rfl, rfl⟩))
          refine bodyPost_ret (v := .tuple #[.slice (some ⟨g, 0, none⟩) n cap2, .bool false]) (by simp [results, Tryz.results106, go_sem, *]) rfl ?_
          exact retJobs HF.out HL.out.symm R4 f4
      · have HF := Lib.hid (show firedR l id x = (l, false) by
          unfold firedR
          rw [if_pos HPA.out, if_neg]
          unfold firedOk
          rw [← HKK.out, decide_eq_false hf0]
          simp)
        have HF0 := Lib.hid hf0
        clear hf0
        go_enter Tryz.func106, Tryz.ntmps106
        go_wp2_with fail
        refine c1.mono ?_
        rintro e w1 ⟨rfl, b1⟩
        go_wp2_with fail
        refine (PRE.out w1 b1).mono ?_
        rintro e w2 ⟨A2, cap2, rfl, R2, b2⟩
        have f2 := bthen b1 b2
        have c3 := placeJob_any A2 n cap2 l id w2 R2.sl HL.out (by unfold maxLen; omega)
        rw [HA.out] at c3
        go_wp2_with fail
        refine c3.mono ?_
        rintro e w3 ⟨rfl, b3⟩
        have R3 := (R2.below b3).mono b1.size
        have f3 := bthen f2 b3
        obtain ⟨g, cs, rfl, hlg, K, hcs, hj, hcell⟩ := R3.cells5 HL.out (by omega)
        obtain ⟨h0, h1, h2, h3, h4⟩ := hcell k hkn
        have hcm : cap2 ≤ 9223372036854775807 := by have := R3.cap_le.2; unfold maxLen at this; omega
        clear hcell hj hcs
        generalize (l.getD k default).i = y0 at h0
        generalize (l.getD k default).d = y1 at h1
        generalize (l.getD k default).k = y2 at h2
        generalize (l.getD k default).v = y3 at h3
        have hff : ¬ (l.getD k default).f = 0 := HF0.out
        generalize (l.getD k default).f = y4 at h4 hff
        have hd := decide_eq_false hff
        go_wp2_with fail
        refine (open_any _ _ _ _ _ _).mono ?_
        rintro e w4 ⟨rfl, b4⟩
        rw [hd]
        have R4 := R3.below b4
        have f4 := bthen f3 b4
        clear hff hd
        go_wp2
        refine bodyPost_ret (v := .tuple #[.slice (some ⟨g, 0, none⟩) n cap2, .bool false]) (by simp [results, Tryz.results106, go_sem, *]) rfl ?_
        exact retJobs HF.out HL.out.symm R4 f4
    · have ha : placeJ l id = -1 := by unfold placeJ; rw [if_neg hk]
      have HA := Lib.hid ha
      have HF := Lib.hid (show firedR l id x = (l, false) by unfold firedR; rw [if_pos HPA.out, if_neg]; unfold firedOk; rw [decide_eq_false hk]; simp)
      clear ha hk
      go_enter Tryz.func106, Tryz.ntmps106
      go_wp2_with fail
      refine c1.mono ?_
      rintro e w1 ⟨rfl, b1⟩
      go_wp2_with fail
      refine (copyJobs_any A n cap l w1 (HS.out.below b1) HL.out (by omega) hA).mono ?_
      rintro e w2 ⟨A2, cap2, rfl, R2, b2⟩
      have f2 := bthen b1 b2
      have c3 := placeJob_any A2 n cap2 l id w2 R2.sl HL.out (by unfold maxLen; omega)
      rw [HA.out] at c3
      go_wp2_with fail
      refine c3.mono ?_
      rintro e w3 ⟨rfl, b3⟩
      have R3 := (R2.below b3).mono b1.size
      go_wp2
      refine bodyPost_ret (v := .tuple #[.slice A2 n cap2, .bool false]) (by simp [results, Tryz.results106, go_sem, *]) rfl ?_
      exact retJobs HF.out HL.out.symm R3 (bthen f2 b3)
  · have hpa' : jobsB l = false := by simpa using hpa
    have HF := Lib.hid (show firedR l id x = ([], false) by unfold firedR; rw [if_neg hpa])
    rw [hpa'] at c1
    go_enter Tryz.func106, Tryz.ntmps106
    go_wp2_with fail
    refine c1.mono ?_
    rintro e w1 ⟨rfl, b1⟩
    go_wp2
    refine bodyPost_ret (v := .tuple #[.slice none 0 0, .bool false]) (by simp [results, Tryz.results106, go_sem, *]) rfl ?_
    exact retJobs HF.out rfl (Row.nil _ _ _ _) b1
end Go.Proofs.YtokklkmibjpjnaaGreat
namespace Go.Proofs.YtokklkmibjpjnaaGreat
set_option linter.unusedSimpArgs false
set_option linter.unusedVariables false
attribute [local go_sem] n_lt2 n_lt3 n_lt4 n_le2 n_le3
open Go.RowKit
attribute [local go_sem] Ext.cell Ext.frozen
theorem hl_drew {W v : World} {g : Nat} (h : ∀ b o, b < g → v.cell? ⟨b, o, none⟩ = W.cell? ⟨b, o, none⟩) : ∀ b o, b < g → v.drew.cell? ⟨b, o, none⟩ = W.cell? ⟨b, o, none⟩ := h
theorem hl_alloc {W v : World} {g : Nat} (h : ∀ b o, b < g → v.cell? ⟨b, o, none⟩ = W.cell? ⟨b, o, none⟩) (hz : g ≤ v.heap.size) (x : Obj) : ∀ b o, b < g → (v.alloc x).cell? ⟨b, o, none⟩ = W.cell? ⟨b, o, none⟩ := fun b o hb => (Below.cell (p := ⟨b, o, none⟩) ((Below.refl v.heap.size v).alloc (Nat.le_refl _) x) (Nat.lt_of_lt_of_le hb hz)).trans (h b o hb)
theorem hl_set {W v : World} {g k : Nat} (h : ∀ b o, b < g → v.cell? ⟨b, o, none⟩ = W.cell? ⟨b, o, none⟩) (hz : g ≤ k) (j : Nat) (y : Value) : ∀ b o, b < g → (v.setCell ⟨k, j, none⟩ y).cell? ⟨b, o, none⟩ = W.cell? ⟨b, o, none⟩ := fun b o hb => (World.cell?_setCell_far _ _ _ _ (by show k ≠ b; omega)).trans (h b o hb)
theorem hl_set7 {W v : World} {g k : Nat} (h : ∀ b o, b < g → v.cell? ⟨b, o, none⟩ = W.cell? ⟨b, o, none⟩) (hz : g ≤ k) (y0 y1 y2 y3 y4 y5 y6 : Value) : ∀ b o, b < g → (((((((v.setCell ⟨k, 0, none⟩ y0).setCell ⟨k, 1, none⟩ y1).setCell ⟨k, 2, none⟩ y2).setCell ⟨k, 3, none⟩ y3).setCell ⟨k, 4, none⟩ y4).setCell ⟨k, 5, none⟩ y5).setCell ⟨k, 6, none⟩ y6).cell? ⟨b, o, none⟩ = W.cell? ⟨b, o, none⟩ := (hl_set (hl_set (hl_set (hl_set (hl_set (hl_set (hl_set h hz 0 y0) hz 1 y1) hz 2 y2) hz 3 y3) hz 4 y4) hz 5 y5) hz 6 y6)

theorem row_nil {w : World} {lo : Nat} {e : TypeId} {s : Nat} {A : Option Addr} {n cap : Nat} {zs : List Int} (h : Row w lo e s A n cap zs) : A = none → n = 0 ∧ cap = 0 := fun hA => by
  subst hA
  rcases h.2 with ⟨hv, h0⟩ | ⟨g, c, cur, hv, _⟩
  · injection hv with _ _ hc
    exact ⟨h0, hc⟩
  · injection hv with h1
    exact absurd h1 (by simp)
set_option maxRecDepth 100000 in
set_option maxHeartbeats 2000000 in
theorem l17Copy_any (A : Option Addr) (n c : Nat) (B : Option Addr) (m d : Nat) (i0 t0 l0 l1 l2 : Int) (pl : List Pr) (ql : List Jb) (w : World) (hP : Sl w 2 A n (PR pl)) (hQ : Sl w 5 B m (JB ql)) (hl : pl.length = n) (hr : ql.length = m) (hn : n ≤ 1000) (hm : m ≤ 1000) (hA : A = none → n = 0 ∧ c = 0) (hB : B = none → m = 0 ∧ d = 0) :
    Calls Tryz.prog 28 #[.agg #[.int .i64 i0, .int .i64 t0, .slice A n c, .slice B m d, .int .i64 l0, .int .i64 l1, .int .i64 l2]] w (RetState w i0 t0 l0 l1 l2 n (PR pl) m (JB ql)) := by
  have HP := Lib.hid hP
  have HQ := Lib.hid hQ
  have HA := Lib.hid hA
  have HB := Lib.hid hB
  have hL := Lib.hid hl
  have hR := Lib.hid hr
  clear hP hQ hA hB hl hr
  go_enter Tryz.func28, Tryz.ntmps28
  go_wp2_with fail
  refine calls_named ?_
  rintro v0 hv0
  have f0 : Below w.heap.size w v0 := by rw [hv0]; (repeat' (first | (with_reducible exact Below.refl _ _) | (with_reducible assumption) | (with_reducible refine Below.alloc ?_ ?_ _) | (with_reducible refine Below.drew ?_) | (with_reducible refine Below.setCell ?_ ?_ _) | (with_reducible refine bstep (by assumption) ?_ ?_) | (with_reducible exact Nat.le_refl _) | omega | (simp [*]; done) | (simp [*]; omega)))
  have z0 : w.heap.size + 2 ≤ v0.heap.size := by rw [hv0]; simp [size_set]
  have HP_0 := Lib.hid (HP.out.below f0)
  have HP_lt := Lib.hid (fun hn => HP.out.lt hn)
  have HQ_0 := Lib.hid (HQ.out.below f0)
  have HQ_lt := Lib.hid (fun hn => HQ.out.lt hn)
  have Ha_0 : Hid (Blk v0 w.heap.size 37 #[.int .i64 i0, .int .i64 t0, .slice A n c, .slice B m d, .int .i64 l0, .int .i64 l1, .int .i64 l2]) := by rw [hv0]; exact (Blk.new_at _ _ _ _ (by simp)).alloc _
  have Hr_0 : Hid (Blk v0 (w.heap.size + 1) 37 #[.int .i64 0, .int .i64 0, .slice none 0 0, .slice none 0 0, .int .i64 0, .int .i64 0, .int .i64 0]) := by rw [hv0]; exact Blk.new_at _ _ _ _ (by simp)
  clear hv0
  generalize hg1 : w.heap.size + 1 = g1 at *
  have lg1 : w.heap.size < g1 := by omega
  have lgz : g1 < v0.heap.size := by omega
  have nq1x0 : ¬ g1 = w.heap.size := by omega
  have nq0x1 : ¬ w.heap.size = g1 := by omega
  clear hg1
  have lt_a := Ha_0.out.lt
  have r_a0 : v0.cell? ⟨w.heap.size, 0, none⟩ = some (.int .i64 i0) := Ha_0.out.cell 0
  have r_a1 : v0.cell? ⟨w.heap.size, 1, none⟩ = some (.int .i64 t0) := Ha_0.out.cell 1
  have r_a2 : v0.cell? ⟨w.heap.size, 2, none⟩ = some (.slice A n c) := Ha_0.out.cell 2
  have r_a3 : v0.cell? ⟨w.heap.size, 3, none⟩ = some (.slice B m d) := Ha_0.out.cell 3
  have r_a4 : v0.cell? ⟨w.heap.size, 4, none⟩ = some (.int .i64 l0) := Ha_0.out.cell 4
  have r_a5 : v0.cell? ⟨w.heap.size, 5, none⟩ = some (.int .i64 l1) := Ha_0.out.cell 5
  have r_a6 : v0.cell? ⟨w.heap.size, 6, none⟩ = some (.int .i64 l2) := Ha_0.out.cell 6
  have z_a0 := Ha_0.out.frozen 0
  have z_a1 := Ha_0.out.frozen 1
  have z_a2 := Ha_0.out.frozen 2
  have z_a3 := Ha_0.out.frozen 3
  have z_a4 := Ha_0.out.frozen 4
  have z_a5 := Ha_0.out.frozen 5
  have z_a6 := Ha_0.out.frozen 6
  have lt_r := Hr_0.out.lt
  have r_r0 : v0.cell? ⟨g1, 0, none⟩ = some (.int .i64 0) := Hr_0.out.cell 0
  have r_r1 : v0.cell? ⟨g1, 1, none⟩ = some (.int .i64 0) := Hr_0.out.cell 1
  have r_r2 : v0.cell? ⟨g1, 2, none⟩ = some (.slice none 0 0) := Hr_0.out.cell 2
  have r_r3 : v0.cell? ⟨g1, 3, none⟩ = some (.slice none 0 0) := Hr_0.out.cell 3
  have r_r4 : v0.cell? ⟨g1, 4, none⟩ = some (.int .i64 0) := Hr_0.out.cell 4
  have r_r5 : v0.cell? ⟨g1, 5, none⟩ = some (.int .i64 0) := Hr_0.out.cell 5
  have r_r6 : v0.cell? ⟨g1, 6, none⟩ = some (.int .i64 0) := Hr_0.out.cell 6
  have z_r0 := Hr_0.out.frozen 0
  have z_r1 := Hr_0.out.frozen 1
  have z_r2 := Hr_0.out.frozen 2
  have z_r3 := Hr_0.out.frozen 3
  have z_r4 := Hr_0.out.frozen 4
  have z_r5 := Hr_0.out.frozen 5
  have z_r6 := Hr_0.out.frozen 6
  refine (l14Copy_any A n c pl _ HP_0.out hL.out hn HA.out).mono ?_
  rintro e v1 ⟨A1, c1, rfl, Rx, b1⟩
  have f1 := bthen f0 b1
  have z1 := b1.size
  have HP_1 := Lib.hid (HP_0.out.below b1)
  have HQ_1 := Lib.hid (HQ_0.out.below b1)
  have Ha_1 := Lib.hid (Ha_0.out.below b1)
  have Hr_1 := Lib.hid (Hr_0.out.below b1)
  clear lt_a r_a0 r_a1 r_a2 r_a3 r_a4 r_a5 r_a6 z_a0 z_a1 z_a2 z_a3 z_a4 z_a5 z_a6 lt_r r_r0 r_r1 r_r2 r_r3 r_r4 r_r5 r_r6 z_r0 z_r1 z_r2 z_r3 z_r4 z_r5 z_r6
  clear HP_0 HQ_0 Ha_0 Hr_0
  have Hx_1 := Lib.hid Rx
  clear Rx
  have Lx := Lib.hid (Hx_1.out.lt)
  have lt_a := Ha_1.out.lt
  have r_a0 : v1.cell? ⟨w.heap.size, 0, none⟩ = some (.int .i64 i0) := Ha_1.out.cell 0
  have r_a1 : v1.cell? ⟨w.heap.size, 1, none⟩ = some (.int .i64 t0) := Ha_1.out.cell 1
  have r_a2 : v1.cell? ⟨w.heap.size, 2, none⟩ = some (.slice A n c) := Ha_1.out.cell 2
  have r_a3 : v1.cell? ⟨w.heap.size, 3, none⟩ = some (.slice B m d) := Ha_1.out.cell 3
  have r_a4 : v1.cell? ⟨w.heap.size, 4, none⟩ = some (.int .i64 l0) := Ha_1.out.cell 4
  have r_a5 : v1.cell? ⟨w.heap.size, 5, none⟩ = some (.int .i64 l1) := Ha_1.out.cell 5
  have r_a6 : v1.cell? ⟨w.heap.size, 6, none⟩ = some (.int .i64 l2) := Ha_1.out.cell 6
  have z_a0 := Ha_1.out.frozen 0
  have z_a1 := Ha_1.out.frozen 1
  have z_a2 := Ha_1.out.frozen 2
  have z_a3 := Ha_1.out.frozen 3
  have z_a4 := Ha_1.out.frozen 4
  have z_a5 := Ha_1.out.frozen 5
  have z_a6 := Ha_1.out.frozen 6
  have lt_r := Hr_1.out.lt
  have r_r0 : v1.cell? ⟨g1, 0, none⟩ = some (.int .i64 0) := Hr_1.out.cell 0
  have r_r1 : v1.cell? ⟨g1, 1, none⟩ = some (.int .i64 0) := Hr_1.out.cell 1
  have r_r2 : v1.cell? ⟨g1, 2, none⟩ = some (.slice none 0 0) := Hr_1.out.cell 2
  have r_r3 : v1.cell? ⟨g1, 3, none⟩ = some (.slice none 0 0) := Hr_1.out.cell 3
  have r_r4 : v1.cell? ⟨g1, 4, none⟩ = some (.int .i64 0) := Hr_1.out.cell 4
  have r_r5 : v1.cell? ⟨g1, 5, none⟩ = some (.int .i64 0) := Hr_1.out.cell 5
  have r_r6 : v1.cell? ⟨g1, 6, none⟩ = some (.int .i64 0) := Hr_1.out.cell 6
  have z_r0 := Hr_1.out.frozen 0
  have z_r1 := Hr_1.out.frozen 1
  have z_r2 := Hr_1.out.frozen 2
  have z_r3 := Hr_1.out.frozen 3
  have z_r4 := Hr_1.out.frozen 4
  have z_r5 := Hr_1.out.frozen 5
  have z_r6 := Hr_1.out.frozen 6
  go_wp2_with fail
  refine calls_named ?_
  rintro v2 hv2
  have f2 : Below w.heap.size w v2 := by rw [hv2]; (repeat' (first | (with_reducible exact Below.refl _ _) | (with_reducible assumption) | (with_reducible refine Below.alloc ?_ ?_ _) | (with_reducible refine Below.drew ?_) | (with_reducible refine Below.setCell ?_ ?_ _) | (with_reducible refine bstep (by assumption) ?_ ?_) | (with_reducible exact Nat.le_refl _) | omega | (simp [*]; done) | (simp [*]; omega)))
  have z2 : v1.heap.size + 0 ≤ v2.heap.size := by rw [hv2]; simp [size_set]
  have HP_2 : Hid (Sl v2 2 A n (PR pl)) := by rw [hv2]; exact (HP_1.out).far (p := ⟨w.heap.size, 2, none⟩) (fun hn a ha => by have := HP_lt.out hn a ha; show a.block ≠ w.heap.size; omega) _
  have HQ_2 : Hid (Sl v2 5 B m (JB ql)) := by rw [hv2]; exact (HQ_1.out).far (p := ⟨w.heap.size, 2, none⟩) (fun hn a ha => by have := HQ_lt.out hn a ha; show a.block ≠ w.heap.size; omega) _
  have Ha_2 : Hid (Blk v2 w.heap.size 37 #[.int .i64 i0, .int .i64 t0, .slice A1 n c1, .slice B m d, .int .i64 l0, .int .i64 l1, .int .i64 l2]) := by rw [hv2]; exact (Ha_1.out).set_ 2 _
  have Hr_2 : Hid (Blk v2 g1 37 #[.int .i64 0, .int .i64 0, .slice none 0 0, .slice none 0 0, .int .i64 0, .int .i64 0, .int .i64 0]) := by rw [hv2]; exact (Hr_1.out).far (p := ⟨w.heap.size, 2, none⟩) (show g1 ≠ w.heap.size by omega) _
  have Hx_2 : Hid (Row v2 v0.heap.size 106 2 A1 n c1 (PR pl)) := by rw [hv2]; exact (Hx_1.out).far (p := ⟨w.heap.size, 2, none⟩) (fun a ha => by have := (Hx_1.out).ge a ha; show a.block ≠ w.heap.size; omega) _
  clear lt_a r_a0 r_a1 r_a2 r_a3 r_a4 r_a5 r_a6 z_a0 z_a1 z_a2 z_a3 z_a4 z_a5 z_a6 lt_r r_r0 r_r1 r_r2 r_r3 r_r4 r_r5 r_r6 z_r0 z_r1 z_r2 z_r3 z_r4 z_r5 z_r6
  clear hv2 HP_1 HQ_1 Ha_1 Hr_1 Hx_1
  have lt_a := Ha_2.out.lt
  have r_a0 : v2.cell? ⟨w.heap.size, 0, none⟩ = some (.int .i64 i0) := Ha_2.out.cell 0
  have r_a1 : v2.cell? ⟨w.heap.size, 1, none⟩ = some (.int .i64 t0) := Ha_2.out.cell 1
  have r_a2 : v2.cell? ⟨w.heap.size, 2, none⟩ = some (.slice A1 n c1) := Ha_2.out.cell 2
  have r_a3 : v2.cell? ⟨w.heap.size, 3, none⟩ = some (.slice B m d) := Ha_2.out.cell 3
  have r_a4 : v2.cell? ⟨w.heap.size, 4, none⟩ = some (.int .i64 l0) := Ha_2.out.cell 4
  have r_a5 : v2.cell? ⟨w.heap.size, 5, none⟩ = some (.int .i64 l1) := Ha_2.out.cell 5
  have r_a6 : v2.cell? ⟨w.heap.size, 6, none⟩ = some (.int .i64 l2) := Ha_2.out.cell 6
  have z_a0 := Ha_2.out.frozen 0
  have z_a1 := Ha_2.out.frozen 1
  have z_a2 := Ha_2.out.frozen 2
  have z_a3 := Ha_2.out.frozen 3
  have z_a4 := Ha_2.out.frozen 4
  have z_a5 := Ha_2.out.frozen 5
  have z_a6 := Ha_2.out.frozen 6
  have lt_r := Hr_2.out.lt
  have r_r0 : v2.cell? ⟨g1, 0, none⟩ = some (.int .i64 0) := Hr_2.out.cell 0
  have r_r1 : v2.cell? ⟨g1, 1, none⟩ = some (.int .i64 0) := Hr_2.out.cell 1
  have r_r2 : v2.cell? ⟨g1, 2, none⟩ = some (.slice none 0 0) := Hr_2.out.cell 2
  have r_r3 : v2.cell? ⟨g1, 3, none⟩ = some (.slice none 0 0) := Hr_2.out.cell 3
  have r_r4 : v2.cell? ⟨g1, 4, none⟩ = some (.int .i64 0) := Hr_2.out.cell 4
  have r_r5 : v2.cell? ⟨g1, 5, none⟩ = some (.int .i64 0) := Hr_2.out.cell 5
  have r_r6 : v2.cell? ⟨g1, 6, none⟩ = some (.int .i64 0) := Hr_2.out.cell 6
  have z_r0 := Hr_2.out.frozen 0
  have z_r1 := Hr_2.out.frozen 1
  have z_r2 := Hr_2.out.frozen 2
  have z_r3 := Hr_2.out.frozen 3
  have z_r4 := Hr_2.out.frozen 4
  have z_r5 := Hr_2.out.frozen 5
  have z_r6 := Hr_2.out.frozen 6
  refine (l15Copy_any B m d ql _ HQ_2.out hR.out hm HB.out).mono ?_
  rintro e v3 ⟨B1, d1, rfl, Ry, b3⟩
  have f3 := bthen f2 b3
  have z3 := b3.size
  have HP_3 := Lib.hid (HP_2.out.below b3)
  have HQ_3 := Lib.hid (HQ_2.out.below b3)
  have Ha_3 := Lib.hid (Ha_2.out.below b3)
  have Hr_3 := Lib.hid (Hr_2.out.below b3)
  have Hx_3 := Lib.hid (Hx_2.out.below b3)
  clear lt_a r_a0 r_a1 r_a2 r_a3 r_a4 r_a5 r_a6 z_a0 z_a1 z_a2 z_a3 z_a4 z_a5 z_a6 lt_r r_r0 r_r1 r_r2 r_r3 r_r4 r_r5 r_r6 z_r0 z_r1 z_r2 z_r3 z_r4 z_r5 z_r6
  clear HP_2 HQ_2 Ha_2 Hr_2 Hx_2
  have Hy_3 := Lib.hid Ry
  clear Ry
  have hap : ∀ a b, A1 = some a → B1 = some b → a.block ≠ b.block := fun a b ha hb => by
    have h1 := Lx.out a ha
    have h2 := Hy_3.out.ge b hb
    omega
  have HAP := Lib.hid hap
  clear hap
  have lt_a := Ha_3.out.lt
  have r_a0 : v3.cell? ⟨w.heap.size, 0, none⟩ = some (.int .i64 i0) := Ha_3.out.cell 0
  have r_a1 : v3.cell? ⟨w.heap.size, 1, none⟩ = some (.int .i64 t0) := Ha_3.out.cell 1
  have r_a2 : v3.cell? ⟨w.heap.size, 2, none⟩ = some (.slice A1 n c1) := Ha_3.out.cell 2
  have r_a3 : v3.cell? ⟨w.heap.size, 3, none⟩ = some (.slice B m d) := Ha_3.out.cell 3
  have r_a4 : v3.cell? ⟨w.heap.size, 4, none⟩ = some (.int .i64 l0) := Ha_3.out.cell 4
  have r_a5 : v3.cell? ⟨w.heap.size, 5, none⟩ = some (.int .i64 l1) := Ha_3.out.cell 5
  have r_a6 : v3.cell? ⟨w.heap.size, 6, none⟩ = some (.int .i64 l2) := Ha_3.out.cell 6
  have z_a0 := Ha_3.out.frozen 0
  have z_a1 := Ha_3.out.frozen 1
  have z_a2 := Ha_3.out.frozen 2
  have z_a3 := Ha_3.out.frozen 3
  have z_a4 := Ha_3.out.frozen 4
  have z_a5 := Ha_3.out.frozen 5
  have z_a6 := Ha_3.out.frozen 6
  have lt_r := Hr_3.out.lt
  have r_r0 : v3.cell? ⟨g1, 0, none⟩ = some (.int .i64 0) := Hr_3.out.cell 0
  have r_r1 : v3.cell? ⟨g1, 1, none⟩ = some (.int .i64 0) := Hr_3.out.cell 1
  have r_r2 : v3.cell? ⟨g1, 2, none⟩ = some (.slice none 0 0) := Hr_3.out.cell 2
  have r_r3 : v3.cell? ⟨g1, 3, none⟩ = some (.slice none 0 0) := Hr_3.out.cell 3
  have r_r4 : v3.cell? ⟨g1, 4, none⟩ = some (.int .i64 0) := Hr_3.out.cell 4
  have r_r5 : v3.cell? ⟨g1, 5, none⟩ = some (.int .i64 0) := Hr_3.out.cell 5
  have r_r6 : v3.cell? ⟨g1, 6, none⟩ = some (.int .i64 0) := Hr_3.out.cell 6
  have z_r0 := Hr_3.out.frozen 0
  have z_r1 := Hr_3.out.frozen 1
  have z_r2 := Hr_3.out.frozen 2
  have z_r3 := Hr_3.out.frozen 3
  have z_r4 := Hr_3.out.frozen 4
  have z_r5 := Hr_3.out.frozen 5
  have z_r6 := Hr_3.out.frozen 6
  go_wp21
  refine bodyPost_ret (v := .agg #[.int .i64 i0, .int .i64 t0, .slice A1 n c1, .slice B1 m d1, .int .i64 l0, .int .i64 l1, .int .i64 l2]) (by simp [results, Tryz.results28, go_sem, *]) rfl ?_
  exact ⟨A1, c1, B1, d1, rfl, (((((((((Hx_3.out).far (p := ⟨w.heap.size, 3, none⟩) (fun a ha => by have := (Hx_3.out).ge a ha; show a.block ≠ w.heap.size; omega) _).far (p := ⟨g1, 0, none⟩) (fun a ha => by have := (Hx_3.out).ge a ha; show a.block ≠ g1; omega) _).far (p := ⟨g1, 1, none⟩) (fun a ha => by have := (Hx_3.out).ge a ha; show a.block ≠ g1; omega) _).far (p := ⟨g1, 2, none⟩) (fun a ha => by have := (Hx_3.out).ge a ha; show a.block ≠ g1; omega) _).far (p := ⟨g1, 3, none⟩) (fun a ha => by have := (Hx_3.out).ge a ha; show a.block ≠ g1; omega) _).far (p := ⟨g1, 4, none⟩) (fun a ha => by have := (Hx_3.out).ge a ha; show a.block ≠ g1; omega) _).far (p := ⟨g1, 5, none⟩) (fun a ha => by have := (Hx_3.out).ge a ha; show a.block ≠ g1; omega) _).far (p := ⟨g1, 6, none⟩) (fun a ha => by have := (Hx_3.out).ge a ha; show a.block ≠ g1; omega) _).mono (by omega), (((((((((Hy_3.out).far (p := ⟨w.heap.size, 3, none⟩) (fun a ha => by have := (Hy_3.out).ge a ha; show a.block ≠ w.heap.size; omega) _).far (p := ⟨g1, 0, none⟩) (fun a ha => by have := (Hy_3.out).ge a ha; show a.block ≠ g1; omega) _).far (p := ⟨g1, 1, none⟩) (fun a ha => by have := (Hy_3.out).ge a ha; show a.block ≠ g1; omega) _).far (p := ⟨g1, 2, none⟩) (fun a ha => by have := (Hy_3.out).ge a ha; show a.block ≠ g1; omega) _).far (p := ⟨g1, 3, none⟩) (fun a ha => by have := (Hy_3.out).ge a ha; show a.block ≠ g1; omega) _).far (p := ⟨g1, 4, none⟩) (fun a ha => by have := (Hy_3.out).ge a ha; show a.block ≠ g1; omega) _).far (p := ⟨g1, 5, none⟩) (fun a ha => by have := (Hy_3.out).ge a ha; show a.block ≠ g1; omega) _).far (p := ⟨g1, 6, none⟩) (fun a ha => by have := (Hy_3.out).ge a ha; show a.block ≠ g1; omega) _).mono (by omega), HAP.out, by (repeat' (first | (with_reducible exact Below.refl _ _) | (with_reducible assumption) | (with_reducible refine Below.alloc ?_ ?_ _) | (with_reducible refine Below.drew ?_) | (with_reducible refine Below.setCell ?_ ?_ _) | (with_reducible refine bstep (by assumption) ?_ ?_) | (with_reducible exact Nat.le_refl _) | omega | (simp [*]; done) | (simp [*]; omega)))⟩
theorem below_und {v w' : World} (h : Below v.drew.heap.size v.drew w') : Below v.heap.size v w' := ⟨h.os, h.tape, h.output, h.size, h.block⟩
set_option maxRecDepth 100000 in
set_option maxHeartbeats 4000000 in
theorem copyState_any (A : Option Addr) (n c : Nat) (B : Option Addr) (m d : Nat) (i0 t0 l0 l1 l2 : Int) (pl : List Pr) (ql : List Jb) (w : World) (hP : Sl w 2 A n (PR pl)) (hQ : Sl w 5 B m (JB ql)) (hl : pl.length = n) (hr : ql.length = m) (hn : n ≤ 1000) (hm : m ≤ 1000) (hA : A = none → n = 0 ∧ c = 0) (hB : B = none → m = 0 ∧ d = 0) :
    Calls Tryz.prog 42 #[.agg #[.int .i64 i0, .int .i64 t0, .slice A n c, .slice B m d, .int .i64 l0, .int .i64 l1, .int .i64 l2]] w (RetState w i0 t0 l0 l1 l2 n (PR pl) m (JB ql)) := by
  have HP := Lib.hid hP
  have HQ := Lib.hid hQ
  have HA := Lib.hid hA
  have HB := Lib.hid hB
  have hL := Lib.hid hl
  have hR := Lib.hid hr
  clear hP hQ hA hB hl hr
  go_enter Tryz.func42, Tryz.ntmps42
  go_wp2
  obtain ⟨v, hv⟩ : ∃ v : World, v = (w.alloc (.cells #[.int .i64 i0, .int .i64 t0, .slice A n c, .slice B m d, .int .i64 l0, .int .i64 l1, .int .i64 l2] 37)).alloc (.cells #[.int .i64 0, .int .i64 0, .slice none 0 0, .slice none 0 0, .int .i64 0, .int .i64 0, .int .i64 0] 37) := ⟨_, rfl⟩
  try rw [← hv]
  obtain ⟨g1, hg1⟩ : ∃ g, g = w.heap.size + 1 := ⟨_, rfl⟩
  try rw [← hg1]
  have K0 : Hid (Blk v w.heap.size 37 #[.int .i64 i0, .int .i64 t0, .slice A n c, .slice B m d, .int .i64 l0, .int .i64 l1, .int .i64 l2]) := by rw [hv]; exact (Blk.new_at _ _ _ _ (by simp)).alloc _
  have K1 : Hid (Blk v g1 37 #[.int .i64 0, .int .i64 0, .slice none 0 0, .slice none 0 0, .int .i64 0, .int .i64 0, .int .i64 0]) := by rw [hv, hg1]; exact Blk.new_at _ _ _ _ (by simp)
  have hF : Hid (Below w.heap.size w v) := Lib.hid (by rw [hv]; (repeat' (first | (with_reducible exact Below.refl _ _) | (with_reducible assumption) | (with_reducible refine Below.alloc ?_ ?_ _) | (with_reducible refine Below.drew ?_) | (with_reducible refine Below.setCell ?_ ?_ _) | (with_reducible refine bstep (by assumption) ?_ ?_) | (with_reducible exact Nat.le_refl _) | omega | (simp [*]; done) | (simp [*]; omega))))
  have hlg : w.heap.size ≤ g1 := by omega
  have hng : g1 ≠ w.heap.size := by omega
  have hgl : g1 < v.heap.size := K1.out.lt
  have HP0 := Lib.hid (HP.out.below hF.out)
  have HQ0 := Lib.hid (HQ.out.below hF.out)
  clear hv hg1
  have r_a0 : v.cell? ⟨w.heap.size, 0, none⟩ = some (.int .i64 i0) := K0.out.cell 0
  have r_a1 : v.cell? ⟨w.heap.size, 1, none⟩ = some (.int .i64 t0) := K0.out.cell 1
  have r_a2 : v.cell? ⟨w.heap.size, 2, none⟩ = some (.slice A n c) := K0.out.cell 2
  have r_a3 : v.cell? ⟨w.heap.size, 3, none⟩ = some (.slice B m d) := K0.out.cell 3
  have r_a4 : v.cell? ⟨w.heap.size, 4, none⟩ = some (.int .i64 l0) := K0.out.cell 4
  have r_a5 : v.cell? ⟨w.heap.size, 5, none⟩ = some (.int .i64 l1) := K0.out.cell 5
  have r_a6 : v.cell? ⟨w.heap.size, 6, none⟩ = some (.int .i64 l2) := K0.out.cell 6
  have lt_a := K0.out.lt
  have lg0 : w.heap.size < g1 := by omega
  have zg : g1 ≤ v.heap.size := Nat.le_of_lt hgl
  have hS0 : ∀ b o, b < g1 → v.cell? ⟨b, o, none⟩ = v.cell? ⟨b, o, none⟩ := fun b o hb => rfl
  go_region_held_law (fun w' => ∀ b o, b < g1 → w'.cell? ⟨b, o, none⟩ = v.cell? ⟨b, o, none⟩) (repeat' (first | with_reducible assumption | with_reducible exact Nat.le_refl _ | with_reducible exact hS0 | with_reducible refine hl_drew ?_ | with_reducible refine hl_alloc ?_ ?_ _ | with_reducible refine hl_set7 ?_ ?_ _ _ _ _ _ _ _))
    (first
      | (go_at_call 80; refine (copyPairs_any A n c pl _ (by first | with_reducible exact HP0.out | with_reducible exact Sl.drew HP0.out | with_reducible exact (HP0.out.below H5)) hL.out hn HA.out).mono ?_; rintro e v4 ⟨A1, c1, rfl, Rx, b4⟩; have H4 : Below v.heap.size v v4 := (by first | with_reducible exact below_und b4 | with_reducible exact bthen H5 b4); have hS4 : ∀ b o, b < g1 → v4.cell? ⟨b, o, none⟩ = v.cell? ⟨b, o, none⟩ := fun b o hb => H4.cell (p := ⟨b, o, none⟩) (Nat.lt_trans hb hgl); have z4 : g1 ≤ v4.heap.size := Nat.le_trans zg H4.size; have K4 := K1.out.below H4; have xb0 := K4.cell 0; have xf0 := K4.frozen 0; have xb1 := K4.cell 1; have xf1 := K4.frozen 1; have xb2 := K4.cell 2; have xf2 := K4.frozen 2; have xb3 := K4.cell 3; have xf3 := K4.frozen 3; have xb4 := K4.cell 4; have xf4 := K4.frozen 4; have xb5 := K4.cell 5; have xf5 := K4.frozen 5; have xb6 := K4.cell 6; have xf6 := K4.frozen 6; have xl := K4.lt)
      | (go_at_call 81; refine (copyJobs_any B m d ql _ (by first | with_reducible exact HQ0.out | with_reducible exact Sl.drew HQ0.out | with_reducible exact (HQ0.out.below H4)) hR.out hm HB.out).mono ?_; rintro e v5 ⟨B1, d1, rfl, Ry, b5⟩; have H5 : Below v.heap.size v v5 := (by first | with_reducible exact below_und b5 | with_reducible exact bthen H4 b5); have hS5 : ∀ b o, b < g1 → v5.cell? ⟨b, o, none⟩ = v.cell? ⟨b, o, none⟩ := fun b o hb => H5.cell (p := ⟨b, o, none⟩) (Nat.lt_trans hb hgl); have z5 : g1 ≤ v5.heap.size := Nat.le_trans zg H5.size; have K5 := K1.out.below H5; have yb0 := K5.cell 0; have yf0 := K5.frozen 0; have yb1 := K5.cell 1; have yf1 := K5.frozen 1; have yb2 := K5.cell 2; have yf2 := K5.frozen 2; have yb3 := K5.cell 3; have yf3 := K5.frozen 3; have yb4 := K5.cell 4; have yf4 := K5.frozen 4; have yb5 := K5.cell 5; have yf5 := K5.frozen 5; have yb6 := K5.cell 6; have yf6 := K5.frozen 6; have yl := K5.lt))
  all_goals first
    | (
        have bb := H5
        have RX := (Rx.below b5).mono (show v.heap.size ≤ _ from Nat.le_refl _)
        have RY := Ry.mono (show v.heap.size ≤ _ from b4.size)
        have hap : ∀ a b, A1 = some a → B1 = some b → a.block ≠ b.block := fun a b ha hb => by
          have h1 := Rx.lt a ha
          have h2 := Ry.ge b hb
          omega
        have nX : ∀ a, A1 = some a → a.block ≠ g1 := fun a ha => Nat.ne_of_gt (Nat.lt_of_lt_of_le hgl (RX.ge a ha))
        have nY : ∀ a, B1 = some a → a.block ≠ g1 := fun a ha => Nat.ne_of_gt (Nat.lt_of_lt_of_le hgl (RY.ge a ha))
        have KF := Lib.hid (((((((((K1.out.below bb).set_ 0 (.int .i64 i0)).set_ 1 (.int .i64 t0)).set_ 2 (.slice A1 n c1)).set_ 3 (.slice B1 m d1)).set_ 4 (.int .i64 l0)).set_ 5 (.int .i64 l1)).set_ 6 (.int .i64 l2)))
        have FX := Lib.hid (((((((((RX.mono (show w.heap.size ≤ _ from hF.out.size)).far (p := ⟨g1, 0, none⟩) nX (.int .i64 i0)).far (p := ⟨g1, 1, none⟩) nX (.int .i64 t0)).far (p := ⟨g1, 2, none⟩) nX (.slice A1 n c1)).far (p := ⟨g1, 3, none⟩) nX (.slice B1 m d1)).far (p := ⟨g1, 4, none⟩) nX (.int .i64 l0)).far (p := ⟨g1, 5, none⟩) nX (.int .i64 l1)).far (p := ⟨g1, 6, none⟩) nX (.int .i64 l2)))
        have FY := Lib.hid (((((((((RY.mono (show w.heap.size ≤ _ from hF.out.size)).far (p := ⟨g1, 0, none⟩) nY (.int .i64 i0)).far (p := ⟨g1, 1, none⟩) nY (.int .i64 t0)).far (p := ⟨g1, 2, none⟩) nY (.slice A1 n c1)).far (p := ⟨g1, 3, none⟩) nY (.slice B1 m d1)).far (p := ⟨g1, 4, none⟩) nY (.int .i64 l0)).far (p := ⟨g1, 5, none⟩) nY (.int .i64 l1)).far (p := ⟨g1, 6, none⟩) nY (.int .i64 l2)))
        have FF := Lib.hid (((((((((bthen hF.out bb).setCell (p := ⟨g1, 0, none⟩) hlg (.int .i64 i0)).setCell (p := ⟨g1, 1, none⟩) hlg (.int .i64 t0)).setCell (p := ⟨g1, 2, none⟩) hlg (.slice A1 n c1)).setCell (p := ⟨g1, 3, none⟩) hlg (.slice B1 m d1)).setCell (p := ⟨g1, 4, none⟩) hlg (.int .i64 l0)).setCell (p := ⟨g1, 5, none⟩) hlg (.int .i64 l1)).setCell (p := ⟨g1, 6, none⟩) hlg (.int .i64 l2)))
        have HAP := Lib.hid hap
        clear bb RX RY hap nX nY b4 b5 Rx Ry hS0 hS4 hS5 z4 z5 K4 K5 H4 H5
        clear xb0 xf0 xb1 xf1 xb2 xf2 xb3 xf3 xb4 xf4 xb5 xf5 xb6 xf6 yb0 yf0 yb1 yf1 yb2 yf2 yb3 yf3 yb4 yf4 yb5 yf5 yb6 yf6 xl yl r_a0 r_a1 r_a2 r_a3 r_a4 r_a5 r_a6
        have q0 := KF.out.cell 0
        have q1 := KF.out.cell 1
        have q2 := KF.out.cell 2
        have q3 := KF.out.cell 3
        have q4 := KF.out.cell 4
        have q5 := KF.out.cell 5
        have q6 := KF.out.cell 6
        go_wp2
        refine bodyPost_ret (v := .agg #[.int .i64 i0, .int .i64 t0, .slice A1 n c1, .slice B1 m d1, .int .i64 l0, .int .i64 l1, .int .i64 l2]) (by simp [results, Tryz.results42, go_sem, *]) rfl ?_
        exact ⟨A1, c1, B1, d1, rfl, FX.out, FY.out, HAP.out, FF.out⟩)
    | (
        have bb := H4
        have RX := Rx.mono (show v.heap.size ≤ _ from b5.size)
        have RY := (Ry.below b4).mono (show v.heap.size ≤ _ from Nat.le_refl _)
        have hap : ∀ a b, A1 = some a → B1 = some b → a.block ≠ b.block := fun a b ha hb => by
          have h1 := Ry.lt b hb
          have h2 := Rx.ge a ha
          omega
        have nX : ∀ a, A1 = some a → a.block ≠ g1 := fun a ha => Nat.ne_of_gt (Nat.lt_of_lt_of_le hgl (RX.ge a ha))
        have nY : ∀ a, B1 = some a → a.block ≠ g1 := fun a ha => Nat.ne_of_gt (Nat.lt_of_lt_of_le hgl (RY.ge a ha))
        have KF := Lib.hid (((((((((K1.out.below bb).set_ 0 (.int .i64 i0)).set_ 1 (.int .i64 t0)).set_ 2 (.slice A1 n c1)).set_ 3 (.slice B1 m d1)).set_ 4 (.int .i64 l0)).set_ 5 (.int .i64 l1)).set_ 6 (.int .i64 l2)))
        have FX := Lib.hid (((((((((RX.mono (show w.heap.size ≤ _ from hF.out.size)).far (p := ⟨g1, 0, none⟩) nX (.int .i64 i0)).far (p := ⟨g1, 1, none⟩) nX (.int .i64 t0)).far (p := ⟨g1, 2, none⟩) nX (.slice A1 n c1)).far (p := ⟨g1, 3, none⟩) nX (.slice B1 m d1)).far (p := ⟨g1, 4, none⟩) nX (.int .i64 l0)).far (p := ⟨g1, 5, none⟩) nX (.int .i64 l1)).far (p := ⟨g1, 6, none⟩) nX (.int .i64 l2)))
        have FY := Lib.hid (((((((((RY.mono (show w.heap.size ≤ _ from hF.out.size)).far (p := ⟨g1, 0, none⟩) nY (.int .i64 i0)).far (p := ⟨g1, 1, none⟩) nY (.int .i64 t0)).far (p := ⟨g1, 2, none⟩) nY (.slice A1 n c1)).far (p := ⟨g1, 3, none⟩) nY (.slice B1 m d1)).far (p := ⟨g1, 4, none⟩) nY (.int .i64 l0)).far (p := ⟨g1, 5, none⟩) nY (.int .i64 l1)).far (p := ⟨g1, 6, none⟩) nY (.int .i64 l2)))
        have FF := Lib.hid (((((((((bthen hF.out bb).setCell (p := ⟨g1, 0, none⟩) hlg (.int .i64 i0)).setCell (p := ⟨g1, 1, none⟩) hlg (.int .i64 t0)).setCell (p := ⟨g1, 2, none⟩) hlg (.slice A1 n c1)).setCell (p := ⟨g1, 3, none⟩) hlg (.slice B1 m d1)).setCell (p := ⟨g1, 4, none⟩) hlg (.int .i64 l0)).setCell (p := ⟨g1, 5, none⟩) hlg (.int .i64 l1)).setCell (p := ⟨g1, 6, none⟩) hlg (.int .i64 l2)))
        have HAP := Lib.hid hap
        clear bb RX RY hap nX nY b4 b5 Rx Ry hS0 hS4 hS5 z4 z5 K4 K5 H4 H5
        clear xb0 xf0 xb1 xf1 xb2 xf2 xb3 xf3 xb4 xf4 xb5 xf5 xb6 xf6 yb0 yf0 yb1 yf1 yb2 yf2 yb3 yf3 yb4 yf4 yb5 yf5 yb6 yf6 xl yl r_a0 r_a1 r_a2 r_a3 r_a4 r_a5 r_a6
        have q0 := KF.out.cell 0
        have q1 := KF.out.cell 1
        have q2 := KF.out.cell 2
        have q3 := KF.out.cell 3
        have q4 := KF.out.cell 4
        have q5 := KF.out.cell 5
        have q6 := KF.out.cell 6
        go_wp2
        refine bodyPost_ret (v := .agg #[.int .i64 i0, .int .i64 t0, .slice A1 n c1, .slice B1 m d1, .int .i64 l0, .int .i64 l1, .int .i64 l2]) (by simp [results, Tryz.results42, go_sem, *]) rfl ?_
        exact ⟨A1, c1, B1, d1, rfl, FX.out, FY.out, HAP.out, FF.out⟩)
end Go.Proofs.YtokklkmibjpjnaaGreat
