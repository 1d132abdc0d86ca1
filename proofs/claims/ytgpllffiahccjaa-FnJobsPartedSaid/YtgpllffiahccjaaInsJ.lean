/- slices.Insert of one Job into a row of the call's own. -/
import Derived.Test.YtgpllffiahccjaaSJob
import Derived.Test.YtgpllffiahccjaaSet
import Derived.Test.YtgpllffiahccjaaApp
import Derived.Deep.RegionLaw
import Derived.Lib.Overlaps
import Derived.Lib.AppendZeros
import Derived.Laws.Externs
import Derived.Laws.NewBlocks
import Derived.Outline
namespace Go.Proofs.Ytgpllffiahccjaa
set_option linter.unusedSimpArgs false
set_option linter.unusedVariables false
attribute [local go_sem] n_lt2 n_lt3 n_lt4 n_le2 n_le3
open Go.RowKit

/-- What Insert leaves: the row with the new element. -/
def InsResJob (lo n i : Nat) (zs vs : List Int) (w : World) (e : Ending) (w' : World) : Prop := ∃ A' cap', e = .returned (.slice A' (n + 1) cap') ∧ Row w' lo 68 5 A' (n + 1) cap' (zs.take (i * 5) ++ vs ++ zs.drop (i * 5)) ∧ Below lo w w'
theorem zeroI_Job (w : World) : (zeroValue 68).run Try.prog w = .ok (.agg #[.int .i64 0, .int .i64 0, .int .i64 0, .int .i64 0, .int .i64 0]) w := by kernel_rfl
theorem sizeI_Job (w : World) : (Go.sizeOf 68).run Try.prog w = .ok 5 w := by kernel_rfl
set_option maxRecDepth 100000 in
set_option maxHeartbeats 2000000 in
theorem insertJob_end (lo : Nat) (A : Option Addr) (n cap vb : Nat) (zs vs : List Int) (w : World) (R : Row w lo 68 5 A n cap zs) (hlo : lo ≤ w.heap.size) (hn : n ≤ 1000) (hvl : vs.length = 5) (V : Blk w vb 68 (ints vs).toArray) :
    Calls Try.prog 114 #[.slice A n cap, .int .i64 (n : Nat), .slice (some ⟨vb, 0, none⟩) 1 1] w (InsResJob lo n n zs vs w) := by
  have hzl := R.len
  have e1 : zs.take (n * 5) ++ vs ++ zs.drop (n * 5) = zs ++ vs := by rw [List.take_of_length_le (by omega), List.drop_eq_nil_of_le (by omega), List.append_nil]
  have hnw : ∀ j u, (ints vs)[j]? = some u → w.cell? ((⟨vb, 0, none⟩ : Addr).add j) = some u := fun j u hu => by
    have ha : (⟨vb, 0, none⟩ : Addr).add j = ⟨vb, j, none⟩ := by unfold Addr.add; split <;> simp_all
    rw [ha, V.cell]
    simpa using hu
  have hcp := R.cap_le
  have hcm : cap ≤ 9223372036854775807 := by have := hcp.2; unfold maxLen at this; omega
  have hcn := hcp.1
  have H1 := Lib.hid hnw
  have H2 := Lib.hid e1
  clear hnw e1 V hcp
  go_enter Try.func114, Try.ntmps114
  go_wp2_with (at_builtin; refine wpList_append_row rfl _ _ 51 rfl 68 (.agg #[.int .i64 0, .int .i64 0, .int .i64 0, .int .i64 0, .int .i64 0]) 5 40 Try.underlying51 info_Job (by first | kernel_rfl | simp [Value.cells]) (by decide) lo A n cap zs rfl R ⟨vb, 0, none⟩ 1 1 vs rfl (by omega) H1.out (by unfold maxLen; omega) (by omega) hlo ?_; intro A5 c5 w5 R5 B5)
  all_goals (go_ret; exact ⟨A5, c5, rfl, by rw [H2.out]; exact R5, B5⟩)
set_option maxRecDepth 100000 in
set_option maxHeartbeats 4000000 in
theorem insertJob_shift (lo g n cap i vb : Nat) (cs : Array Value) (zs vs : List Int) (w : World) (K : Blk w g 68 cs) (hlo : lo ≤ g) (hcs : cs.size = cap * 5) (hzl : zs.length = n * 5) (hj : ∀ j, j < n * 5 → cs[j]? = some (.int .i64 (zs.getD j 0))) (hcm : cap ≤ maxLen)
    (hi : i < n) (hroom : n + 1 ≤ cap) (hvl : vs.length = 5) (V : Blk w vb 68 (ints vs).toArray) (hvb : vb ≠ g) :
    Calls Try.prog 114 #[.slice (some ⟨g, 0, none⟩) n cap, .int .i64 (i : Nat), .slice (some ⟨vb, 0, none⟩) 1 1] w (InsResJob lo n i zs vs w) := by
  unfold maxLen at hcm
  have hsz : (Try.prog.info? 68).map (·.size) = some 5 := by kernel_rfl
  have hov : ∀ a lb cb, a = (⟨g, (i + 1) * 5, none⟩ : Addr) → (callFunc 144 #[.slice (some ⟨vb, 0, none⟩) 1 1, .slice (some a) lb cb]).run Try.prog w = .ok (.value (.bool false)) w := fun a lb cb ha => by
    subst ha
    rw [run_callFunc_extern Try.func144 (by kernel_rfl) (by kernel_rfl) (by kernel_rfl) (e := Extern.SlicesOverlaps.overlaps #[51, 51] #[4]) (by kernel_rfl),
      Lib.run_overlaps_apart w 51 4 68 Try.underlying51 5 sizeI_Job ⟨vb, 0, none⟩ ⟨g, (i + 1) * 5, none⟩ 1 1 lb cb hvb _ _ _ _ V.shape K.shape (by omega) (V.frozen _) (V.frozen _)]
    rfl
  have hdl : (ints (zs.drop (i * 5))).length = (n - i) * 5 := by rw [ints_length, List.length_drop]; omega
  have hcp1 : ∀ ty dc sc, (Builtin.copy_ #[51, 51] ty #[.slice (some ⟨g, (i + 1) * 5, none⟩) (n - i) dc, .slice (some ⟨g, i * 5, none⟩) (n + 1 - i) sc]).run Try.prog w.drew = .ok (goInt ((n - i : Nat) : Int)) (w.drew.setCells g ((i + 1) * 5) (ints (zs.drop (i * 5)))) := fun ty dc sc =>
    run_copy_flat w.drew _ _ ty 68 5 (n - i) g ((i + 1) * 5) (n - i) dc ⟨g, i * 5, none⟩ (n + 1 - i) sc _ Try.underlying51 hsz (by simp only [Nat.min_def]; split <;> omega) hdl
      (fun j v hjv => by
        have ha : (⟨g, i * 5, none⟩ : Addr).add j = ⟨g, i * 5 + j, none⟩ := by unfold Addr.add; split <;> simp_all
        have hjl : j < (zs.drop (i * 5)).length := by
          have := (List.getElem?_eq_some_iff.1 hjv).1
          rwa [ints_length] at this
        rw [ints_get _ j hjl] at hjv
        rw [List.length_drop] at hjl
        rw [ha, K.drew.cell, hj _ (by omega), ← hjv, getD_drop])
      (fun j hj' => by rw [hdl] at hj'; obtain ⟨c, hc⟩ := K.drew.has (i := (i + 1) * 5 + j) (by omega); rw [hc]; rfl) (fun j _ => K.drew.frozen _) (ints_oneCell' _)
  obtain ⟨W1, hW1⟩ : ∃ W1, W1 = w.drew.setCells g ((i + 1) * 5) (ints (zs.drop (i * 5))) := ⟨_, rfl⟩
  rw [← hW1] at hcp1
  have K1 : Blk W1 g 68 (over cs ((i + 1) * 5) (ints (zs.drop (i * 5)))) := by rw [hW1]; exact Blk.over _ _ _ _ K.drew
  have V1 : Blk W1 vb 68 (ints vs).toArray := by rw [hW1]; exact (heap_setCells hvb _ _ _).trans V
  have b1 : Below lo w W1 := by rw [hW1]; exact below_setCells hlo _ _ _ (Below.drew (Below.refl _ _))
  have hs1 : (over cs ((i + 1) * 5) (ints (zs.drop (i * 5)))).size = cap * 5 := by rw [over_size, hcs]
  have hcp2 : ∀ ty dc, (Builtin.copy_ #[51, 51] ty #[.slice (some ⟨g, i * 5, none⟩) (n + 1 - i) dc, .slice (some ⟨vb, 0, none⟩) 1 1]).run Try.prog W1 = .ok (goInt ((1 : Nat) : Int)) (W1.setCells g (i * 5) (ints vs)) := fun ty dc =>
    run_copy_flat W1 _ _ ty 68 5 1 g (i * 5) (n + 1 - i) dc ⟨vb, 0, none⟩ 1 1 _ Try.underlying51 hsz (by simp only [Nat.min_def]; split <;> omega) (by rw [ints_length]; omega)
      (fun j v hjv => by
        have ha : (⟨vb, 0, none⟩ : Addr).add j = ⟨vb, j, none⟩ := by unfold Addr.add; split <;> simp_all
        rw [ha, V1.cell]
        simpa using hjv)
      (fun j hj' => by rw [ints_length] at hj'; obtain ⟨c, hc⟩ := K1.has (i := i * 5 + j) (by omega); rw [hc]; rfl) (fun j _ => K1.frozen _) (ints_oneCell' _)
  have K2 : Blk (W1.setCells g (i * 5) (ints vs)) g 68 (over (over cs ((i + 1) * 5) (ints (zs.drop (i * 5)))) (i * 5) (ints vs)) := Blk.over _ _ _ _ K1
  have b2 : Below lo w (W1.setCells g (i * 5) (ints vs)) := below_setCells hlo _ _ _ b1
  have hfin : Row (W1.setCells g (i * 5) (ints vs)) lo 68 5 (some ⟨g, 0, none⟩) (n + 1) cap (zs.take (i * 5) ++ vs ++ zs.drop (i * 5)) := by
    refine Row.of_blk K2 hlo hroom (by unfold maxLen; omega) (by rw [over_size, hs1]) (by simp; omega) (fun t ht => ?_)
    rw [ins_getD _ _ _ _ (by omega)]
    split
    · rename_i h1
      rw [over_out _ _ _ _ (.inl h1), over_out _ _ _ _ (.inl (by omega)), hj t (by omega)]
    · split
      · rename_i h1 h2
        rw [show t = i * 5 + (t - i * 5) by omega, over_in _ _ _ _ (by rw [hs1, ints_length]; omega) (by rw [ints_length]; omega), ints_get _ _ (by omega)]
        congr 3
        omega
      · rename_i h1 h2
        rw [over_out _ _ _ _ (.inr (by rw [ints_length]; omega)), show t = (i + 1) * 5 + (t - (i + 1) * 5) by omega, over_in _ _ _ _ (by rw [hdl]; omega) (by rw [hdl]; omega), ints_get _ _ (by rw [List.length_drop]; omega), getD_drop]
        congr 3
        omega
  have HF := Lib.hid (And.intro hfin b2)
  have HO := Lib.hid hov
  have hz2 : ¬ ((i : Int) = (n : Int)) := by omega
  have hb1 : (0 : Int) ≤ (i : Int) + 1 := by omega
  have hin : i ≤ n := by omega
  have htn : ((i : Int) + 1).toNat = i + 1 := by omega
  have hw1 : IntKind.i64.wrap ((i : Int) + 1) = (i : Int) + 1 := by simp [IntKind.wrap, IntKind.bits, IntKind.signed]; omega
  have hb2 : ¬ (cap = i + 1) := by omega
  have hb3 : (i : Int) ≤ (n : Int) + 1 := by omega
  have hb4 : ¬ (cap = i) := by omega
  have hov' := hov _ (n - i) (cap - (i + 1)) rfl
  clear K V K1 V1 b1 K2 b2 hfin hW1 hj hov hdl hs1
  go_enter Try.func114, Try.ntmps114
  go_wp2_with (simp only [hov'])
  go_region_law (refine step_copy_runI rfl _ _ 51 51 rfl _ _ (by simp [Act.eval, Act.put]) (by simp [Act.eval, Act.put]) (hcp1 _ _ _) ?_)
  go_wp2_with (at_builtin; refine wpList_copy_runI _ rfl _ _ 51 51 rfl _ _ rfl rfl (hcp2 _ _) ?_)
  go_ret
  exact ⟨_, _, rfl, HF.out.1, HF.out.2⟩
set_option maxRecDepth 100000 in
set_option maxHeartbeats 4000000 in
theorem insertJob_grow (lo g n i vb : Nat) (cs : Array Value) (zs vs : List Int) (w : World) (K : Blk w g 68 cs) (hlo : lo ≤ g) (hcs : cs.size = n * 5) (hzl : zs.length = n * 5) (hj : ∀ j, j < n * 5 → cs[j]? = some (.int .i64 (zs.getD j 0)))
    (hi : i < n) (hn : n ≤ 1000) (hvl : vs.length = 5) (V : Blk w vb 68 (ints vs).toArray) :
    Calls Try.prog 114 #[.slice (some ⟨g, 0, none⟩) n n, .int .i64 (i : Nat), .slice (some ⟨vb, 0, none⟩) 1 1] w (InsResJob lo n i zs vs w) := by
  obtain ⟨i0, hi0, hz0, hzs, hzb⟩ := info_parts info_Job
  have hsz : (Try.prog.info? 68).map (·.size) = some 5 := by kernel_rfl
  have hz2 : ¬ ((i : Int) = (n : Int)) := by omega
  have hz3 : (n : Int) < (n : Int) + 1 := by omega
  have hkk : (n : Int) + 1 - (i : Int) = ((n + 1 - i : Nat) : Int) := by omega
  have hik : i + (n + 1 - i) = n + 1 := by omega
  have hgl := K.lt
  have hvw := V.lt
  have hold : (Builtin.firstCells i0.size i (.slice (some ⟨g, 0, none⟩) i n)).run Try.prog w.drew = .ok (ints (zs.take (i * 5))).toArray w.drew := by
    rw [hzs]
    refine run_firstCells_some w.drew 5 i ⟨g, 0, none⟩ i n _ (by rw [ints_length, List.length_take]; omega) (fun j v hjv => ?_)
    have ha : (⟨g, 0, none⟩ : Addr).add j = ⟨g, j, none⟩ := by unfold Addr.add; split <;> simp_all
    have hjl : j < (zs.take (i * 5)).length := by
      have := (List.getElem?_eq_some_iff.1 hjv).1
      rwa [ints_length] at this
    rw [ints_get _ j hjl] at hjv
    rw [List.length_take] at hjl
    rw [ha, K.drew.cell, hj _ (by omega), ← hjv, getD_take _ _ _ (by omega)]
  obtain ⟨G, hG⟩ : ∃ G, G = grownCap w (n + 1) n 68 := ⟨_, rfl⟩
  obtain ⟨ROW, hROW⟩ : ∃ ROW : Array Value, ROW = (ints (zs.take (i * 5))).toArray ++ Builtin.zeroCells ((.agg #[.int .i64 0, .int .i64 0, .int .i64 0, .int .i64 0, .int .i64 0]) : Value).cells (n + 1 - i) ++ Builtin.zeroCells ((.agg #[.int .i64 0, .int .i64 0, .int .i64 0, .int .i64 0, .int .i64 0]) : Value).cells (G - (n + 1)) := ⟨_, rfl⟩
  have hrz : ∀ ty, (Builtin.append_ #[51, 3] ty #[.slice (some ⟨g, 0, none⟩) i n, .int .i64 ((n : Int) + 1 - (i : Int))]).run Try.prog w =
      .ok (.slice (some ⟨w.heap.size, 0, none⟩) (n + 1) G) (w.drew.alloc (.cells ROW 68)) := fun ty => by
    have h := Lib.run_append_grow_zeros w 51 3 ty 68 i0 _ .i64 .i64 Try.underlying51 Try.underlying3 hi0 hz0 (some ⟨g, 0, none⟩) i n _ hold (n + 1 - i) (by omega) (by omega) (by omega) (by omega) (by rw [hzb]; omega) (by rw [hzb, hik]; exact growslice_fits (by omega) (by omega))
    rw [hik, ← hG] at h
    rw [hkk, hROW]
    exact h
  have hGn : n + 1 ≤ G := by rw [hG]; exact grownCap_ge w _ _ _
  have hGm : G ≤ maxLen := by
    rw [hG]
    exact grownCap_le_maxLen w (n + 1) n 68 (by unfold maxLen; omega)
  have hzc : ∀ k, (Builtin.zeroCells ((.agg #[.int .i64 0, .int .i64 0, .int .i64 0, .int .i64 0, .int .i64 0]) : Value).cells k).toList = zeros (k * 5) := fun k => zeroCells_flat (z := (.agg #[.int .i64 0, .int .i64 0, .int .i64 0, .int .i64 0, .int .i64 0])) (s := 5) rfl k
  have hzsz : ∀ k, (Builtin.zeroCells ((.agg #[.int .i64 0, .int .i64 0, .int .i64 0, .int .i64 0, .int .i64 0]) : Value).cells k).size = k * 5 := fun k => by rw [← Array.length_toList, hzc, zeros_length]
  have hRs : ROW.size = G * 5 := by
    rw [hROW, Array.size_append, Array.size_append, hzsz, hzsz]
    simp only [List.size_toArray, ints_length, List.length_take]
    omega
  have hRj : ∀ t, t < i * 5 → ROW[t]? = some (.int .i64 (zs.getD t 0)) := fun t ht => by
    rw [hROW, Array.getElem?_append_left (by rw [Array.size_append, hzsz]; simp only [List.size_toArray, ints_length, List.length_take]; omega), Array.getElem?_append_left (by simp only [List.size_toArray, ints_length, List.length_take]; omega), List.getElem?_toArray, ints_get _ _ (by rw [List.length_take]; omega), getD_take _ _ _ ht]
  have hlw : lo ≤ w.heap.size := by omega
  -- the three worlds
  obtain ⟨W1, hW1⟩ : ∃ W1, W1 = w.drew.alloc (.cells ROW 68) := ⟨_, rfl⟩
  rw [← hW1] at hrz
  have N1 : Blk W1 w.heap.size 68 ROW := by rw [hW1]; exact Blk.new w.drew _ _
  have K1 : Blk W1 g 68 cs := by rw [hW1]; exact K.drew.alloc _
  have V1 : Blk W1 vb 68 (ints vs).toArray := by rw [hW1]; exact V.drew.alloc _
  have b1 : Below lo w W1 := by rw [hW1]; exact Below.alloc (Below.drew (Below.refl _ _)) hlw _
  have hcpA : ∀ ty dc, (Builtin.copy_ #[51, 51] ty #[.slice (some ⟨w.heap.size, i * 5, none⟩) (n + 1 - i) dc, .slice (some ⟨vb, 0, none⟩) 1 1]).run Try.prog W1 = .ok (goInt ((1 : Nat) : Int)) (W1.setCells w.heap.size (i * 5) (ints vs)) := fun ty dc =>
    run_copy_flat W1 _ _ ty 68 5 1 w.heap.size (i * 5) (n + 1 - i) dc ⟨vb, 0, none⟩ 1 1 _ Try.underlying51 hsz (by simp only [Nat.min_def]; split <;> omega) (by rw [ints_length]; omega)
      (fun j v hjv => by
        have ha : (⟨vb, 0, none⟩ : Addr).add j = ⟨vb, j, none⟩ := by unfold Addr.add; split <;> simp_all
        rw [ha, V1.cell]
        simpa using hjv)
      (fun j hj' => by rw [ints_length] at hj'; obtain ⟨c, hc⟩ := N1.has (i := i * 5 + j) (by omega); rw [hc]; rfl) (fun j _ => N1.frozen _) (ints_oneCell' _)
  obtain ⟨W2, hW2⟩ : ∃ W2, W2 = W1.setCells w.heap.size (i * 5) (ints vs) := ⟨_, rfl⟩
  rw [← hW2] at hcpA
  have N2 : Blk W2 w.heap.size 68 (over ROW (i * 5) (ints vs)) := by rw [hW2]; exact Blk.over _ _ _ _ N1
  have K2 : Blk W2 g 68 cs := by rw [hW2]; exact (heap_setCells (by omega) _ _ _).trans K1
  have b2 : Below lo w W2 := by rw [hW2]; exact below_setCells hlw _ _ _ b1
  have hs2 : (over ROW (i * 5) (ints vs)).size = G * 5 := by rw [over_size, hRs]
  have hdl : (ints (zs.drop (i * 5))).length = (n - i) * 5 := by rw [ints_length, List.length_drop]; omega
  have hcpB : ∀ ty dc sc, (Builtin.copy_ #[51, 51] ty #[.slice (some ⟨w.heap.size, (i + 1) * 5, none⟩) (n - i) dc, .slice (some ⟨g, i * 5, none⟩) (n - i) sc]).run Try.prog W2.drew = .ok (goInt ((n - i : Nat) : Int)) (W2.drew.setCells w.heap.size ((i + 1) * 5) (ints (zs.drop (i * 5)))) := fun ty dc sc =>
    run_copy_flat W2.drew _ _ ty 68 5 (n - i) w.heap.size ((i + 1) * 5) (n - i) dc ⟨g, i * 5, none⟩ (n - i) sc _ Try.underlying51 hsz (by simp only [Nat.min_def]; split <;> omega) hdl
      (fun j v hjv => by
        have ha : (⟨g, i * 5, none⟩ : Addr).add j = ⟨g, i * 5 + j, none⟩ := by unfold Addr.add; split <;> simp_all
        have hjl : j < (zs.drop (i * 5)).length := by
          have := (List.getElem?_eq_some_iff.1 hjv).1
          rwa [ints_length] at this
        rw [ints_get _ j hjl] at hjv
        rw [List.length_drop] at hjl
        rw [ha, K2.drew.cell, hj _ (by omega), ← hjv, getD_drop])
      (fun j hj' => by rw [hdl] at hj'; obtain ⟨c, hc⟩ := N2.drew.has (i := (i + 1) * 5 + j) (by omega); rw [hc]; rfl) (fun j _ => N2.drew.frozen _) (ints_oneCell' _)
  obtain ⟨W3, hW3⟩ : ∃ W3, W3 = W2.drew.setCells w.heap.size ((i + 1) * 5) (ints (zs.drop (i * 5))) := ⟨_, rfl⟩
  rw [← hW3] at hcpB
  have N3 : Blk W3 w.heap.size 68 (over (over ROW (i * 5) (ints vs)) ((i + 1) * 5) (ints (zs.drop (i * 5)))) := by rw [hW3]; exact Blk.over _ _ _ _ N2.drew
  have b3 : Below lo w W3 := by rw [hW3]; exact below_setCells hlw _ _ _ (Below.drew b2)
  have hfin : Row W3 lo 68 5 (some ⟨w.heap.size, 0, none⟩) (n + 1) G (zs.take (i * 5) ++ vs ++ zs.drop (i * 5)) := by
    refine Row.of_blk N3 hlw hGn hGm (by rw [over_size, hs2]) (by simp; omega) (fun t ht => ?_)
    have hil : i * 5 ≤ n * 5 := Nat.mul_le_mul_right _ (by omega)
    have hGs : (n + 1) * 5 ≤ G * 5 := Nat.mul_le_mul_right _ hGn
    rw [ins_getD _ _ _ _ (by omega)]
    split
    · rename_i h1
      rw [over_out _ _ _ _ (.inl (by omega)), over_out _ _ _ _ (.inl h1), hRj t h1]
    · split
      · rename_i h1 h2
        rw [over_out _ _ _ _ (.inl (by omega)), show t = i * 5 + (t - i * 5) by omega, over_in _ _ _ _ (by rw [hRs, ints_length]; omega) (by rw [ints_length]; omega), ints_get _ _ (by omega)]
        congr 3
        omega
      · rename_i h1 h2
        rw [show t = (i + 1) * 5 + (t - (i + 1) * 5) by omega, over_in _ _ _ _ (by rw [hs2, hdl]; omega) (by rw [hdl]; omega), ints_get _ _ (by rw [List.length_drop]; omega), getD_drop]
        congr 3
        omega
  have HF := Lib.hid (And.intro hfin b3)
  unfold maxLen at hGm
  have hGi : ¬ (G = i) := by omega
  have hGim : ¬ (G = i + 1) := by omega
  have hci : ¬ (n = i) := by omega
  have hw1 : IntKind.i64.wrap ((i : Int) + 1) = (i : Int) + 1 := by simp [IntKind.wrap, IntKind.bits, IntKind.signed]; omega
  have hb1 : (0 : Int) ≤ (i : Int) + 1 := by omega
  have hin : i ≤ n := by omega
  have htn : ((i : Int) + 1).toNat = i + 1 := by omega
  have hb3 : (i : Int) ≤ (n : Int) := by omega
  clear K V N1 K1 V1 b1 N2 K2 b2 N3 b3 hfin hW1 hW2 hW3 hj hdl hs2 hRj hRs hzsz hzc hROW hG hold hkk hik
  go_enter Try.func114, Try.ntmps114
  go_wp2_with (first
    | (at_builtin; refine Lib.wpList_append_run _ rfl _ _ _ _ rfl _ _ rfl rfl _ _ (hrz _) ?_)
    | (at_builtin; refine wpList_copy_runI _ rfl _ _ 51 51 rfl _ _ rfl rfl (hcpA _ _) ?_))
  go_region_law (refine step_copy_runI rfl _ _ 51 51 rfl _ _ (by simp [Act.eval, Act.put]) (by simp [Act.eval, Act.put]) (hcpB _ _ _) ?_)
  go_wp2
  go_ret
  exact ⟨_, _, rfl, HF.out.1, HF.out.2⟩
/-- All three roads. -/
theorem insertJob_any (lo : Nat) (A : Option Addr) (n cap i vb : Nat) (zs vs : List Int) (w : World) (R : Row w lo 68 5 A n cap zs) (hlo : lo ≤ w.heap.size) (hn : n ≤ 1000) (hi : i ≤ n) (hvl : vs.length = 5) (V : Blk w vb 68 (ints vs).toArray) (hvb : ∀ a, A = some a → a.block ≠ vb) :
    Calls Try.prog 114 #[.slice A n cap, .int .i64 (i : Nat), .slice (some ⟨vb, 0, none⟩) 1 1] w (InsResJob lo n i zs vs w) := by
  by_cases hin : i = n
  · subst hin
    exact insertJob_end lo A i cap vb zs vs w R hlo hn hvl V
  · obtain ⟨g, cs, rfl, hlg, K, hnc, hcm, hcs, hj⟩ := R.blk (by omega)
    by_cases hroom : n + 1 ≤ cap
    · exact insertJob_shift lo g n cap i vb cs zs vs w K hlg hcs R.len hj hcm (by omega) hroom hvl V (Ne.symm (hvb _ rfl))
    · obtain rfl : cap = n := by omega
      exact insertJob_grow lo g cap i vb cs zs vs w K hlg hcs R.len hj (by omega) hn hvl V
end Go.Proofs.Ytgpllffiahccjaa
