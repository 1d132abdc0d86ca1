/- Put: the walks. -/
import Derived.Test.YtgpllffiahccjaaPutL
import Derived.Test.YtgpllffiahccjaaInsP
import Derived.Test.YtgpllffiahccjaaP7
namespace Go.Proofs.Ytgpllffiahccjaa
set_option linter.unusedSimpArgs false
set_option linter.unusedVariables false
attribute [local go_sem] n_lt2 n_lt3 n_lt4 n_le2 n_le3
open Go.RowKit
attribute [local go_sem] Ext.cell Ext.frozen

def RetPut (w : World) (l : List Pr) (key v : Int) (e : Ending) (w' : World) : Prop := RetRowB w 101 2 (putR l key v).1.length (PR (putR l key v).1) (putR l key v).2 e w'
theorem retPut {w w' : World} {l l' : List Pr} {key v : Int} {A : Option Addr} {n cap : Nat} {b : Bool} (h : putR l key v = (l', b)) (hn : n = l'.length) (R : Row w' w.heap.size 101 2 A n cap (PR l')) (hb : Below w.heap.size w w') :
    RetPut w l key v (.returned (.tuple #[.slice A n cap, .bool b])) w' := by
  unfold RetPut
  rw [h]
  subst hn
  exact ⟨A, cap, rfl, R, hb⟩
set_option maxRecDepth 100000 in
set_option maxHeartbeats 800000 in
theorem l14Copy_any (A : Option Addr) (n cap : Nat) (l : List Pr) (w : World) (hS : Sl w 2 A n (PR l)) (hl : l.length = n) (hn : n ≤ 1000) (hA : A = none → n = 0 ∧ cap = 0) :
    Calls Try.prog 94 #[.slice A n cap] w (RetRow w 101 2 n (PR l)) := by
  have R0 : Row (w.alloc (.cells #[] 101)) w.heap.size 101 2 (some ⟨w.heap.size, 0, none⟩) 0 0 [] := row0p (Blk.new w _ _) (Nat.le_refl _)
  have hnw := fun ad (h : A = some ad) => sl_news (hS.below ((Below.refl w.heap.size w).alloc (Nat.le_refl _) (.cells #[] 101))) h
  have hPl : (PR l).length = n * 2 := by rw [PR_len, hl]
  cases A with
  | none =>
    obtain ⟨rfl, rfl⟩ := hA rfl
    have hz : PR l = [] := List.eq_nil_of_length_eq_zero (by omega)
    rw [hz]
    obtain ⟨i0, hi0, hz0, hs0, hy0⟩ := info_parts info_Pair
    clear hnw hS hA hPl
    go_enter Try.func94, Try.ntmps94
    go_wp2_with (at_builtin; refine wpList_append_own_none rfl _ _ 41 rfl w.heap.size 101 i0 2 Try.underlying41 hi0 (.slice (some ⟨w.heap.size, 0, none⟩) 0 0) 0 [] rfl R0 rfl ?_)
    go_ret
    exact RetRow.mk R0 (by (repeat' (first | (with_reducible exact Below.refl _ _) | (with_reducible assumption) | (with_reducible refine Below.alloc ?_ ?_ _) | (with_reducible refine Below.drew ?_) | (with_reducible refine Below.setCell ?_ ?_ _) | (with_reducible refine bstep (by assumption) ?_ ?_) | (with_reducible exact Nat.le_refl _) | omega | (simp [*]; done) | (simp [*]; omega))))
  | some ad =>
    have hnw' := Lib.hid (hnw ad rfl)
    clear hnw hS hA
    go_enter Try.func94, Try.ntmps94
    go_wp2_with (at_builtin; refine wpList_append_row rfl _ _ 41 rfl 101 (.agg #[.int .i64 0, .int .i64 0]) 2 16 Try.underlying41 info_Pair (by first | kernel_rfl | simp [Value.cells]) (by decide) w.heap.size (some ⟨w.heap.size, 0, none⟩) 0 0 [] rfl R0 ad n cap (PR l) rfl hPl hnw'.out (by unfold maxLen; omega) (by omega) (by simp) ?_; intro A5 c5 w5 R5 B5)
    go_ret
    simp only [Nat.zero_add, List.nil_append] at R5 ⊢
    exact RetRow.mk R5 (((Below.refl w.heap.size w).alloc (Nat.le_refl _) _).trans B5)
set_option maxRecDepth 100000 in
set_option maxHeartbeats 2000000 in
theorem specPut_any (A : Option Addr) (n cap : Nat) (l : List Pr) (key v : Int) (w : World) (hS : Sl w 2 A n (PR l)) (hl : l.length = n) (hn : n ≤ maxLen) (hA : A = none → n = 0 ∧ cap = 0) :
    Calls Try.prog 40 #[.slice A n cap, .int .i64 key, .int .i64 v] w (RetPut w l key v) := by
  have c1 := specPairsOk_any A n cap l w hS hl hn
  by_cases hpa : pairsB l = true
  · have h10 : n ≤ 10 := by have := pairsB_len hpa; omega
    rw [hpa] at c1
    have HPA := Lib.hid hpa
    have HL := Lib.hid hl
    have HS := Lib.hid hS
    by_cases hr : rightB key v = true
    · have hkr : 0 ≤ key ∧ key ≤ 9 := by
        unfold rightB at hr
        simp only [Bool.and_eq_true, inB_iff] at hr
        exact hr.1
      have HR := Lib.hid (show putR l key v = (putL l key v, true) by unfold putR; rw [if_pos hpa, if_pos hr])
      have HT := Lib.hid (putTo_all (v := v) hpa hkr)
      obtain ⟨hk0, hk9⟩ := hkr
      clear hpa hl hS
      go_enter Try.func40, Try.ntmps40
      go_wp2_with fail
      refine c1.mono ?_
      rintro e w1 ⟨rfl, b1⟩
      go_wp2_with fail
      refine (l14Right_any key v w1).mono ?_
      rintro e w2 ⟨rfl, b2⟩
      rw [hr]
      have hbl2 := bthen b1 b2
      clear b1 b2
      go_wp2
      go_loopw [8, 9] (fun o i wr => ∃ k A0 n0 c0 zs, k ≤ 10 ∧ n0 ≤ k ∧ i = .int .i64 (k : Nat) ∧ o = .slice A0 n0 c0 ∧ Row wr w.heap.size 101 2 A0 n0 c0 zs ∧ Hid (zs = PR (putTo l key v k)) ∧ Below w.heap.size w wr) (fun _ i _ => 10 - (intOf i).toNat)
      case atStart => exact ⟨0, _, _, _, _, by omega, Nat.le_refl _, rfl, rfl, row0p (Blk.new w2 _ _) hbl2.size, Lib.hid rfl, hbl2.alloc hbl2.size _⟩
      case round =>
        obtain ⟨k, A0, n0, c0, zs, hk, hn0, rfl, rfl, R, hz, hbl⟩ := hrel
        by_cases hlt : k < 10
        · have hlt' : (k : Int) ≤ 9 := by omega
          have c2 := specValueAt_any A n cap l (k : Int) wr (HS.out.below hbl) HL.out hn
          have hv : valueAtB l (k : Int) = valAt l k := by unfold valueAtB; rw [if_pos HPA.out]
          rw [hv] at c2
          clear hv
          generalize hva : valAt l (k : Int) = va at c2
          obtain ⟨x, y⟩ := va
          have HVA := Lib.hid hva
          clear hva
          go_wp2_with fail
          refine c2.mono ?_
          rintro e w3 ⟨rfl, b3⟩
          have R3 := R.below b3
          have hbl3 := bstep b3 hbl hbl.size
          have hs3 := hbl3.size
          clear b3 R hbl hbl2 c2
          by_cases hkk : (k : Int) = key
          · have HE := Lib.hid (show PR (putTo l key v (k + 1)) = PR (putTo l key v k) ++ [(k : Int), v] by rw [putTo_succ, PR_append]; congr 1; unfold putG; rw [if_pos hkk]; rfl)
            have hkk' : ((k : Int) == key) = true := by simpa using hkk
            clear hkk
            go_wp2_with (at_builtin; refine wpList_append_row rfl _ _ 41 rfl 101 (.agg #[.int .i64 0, .int .i64 0]) 2 16 Try.underlying41 info_Pair (by first | kernel_rfl | simp [Value.cells]) (by decide) w.heap.size A0 n0 c0 zs rfl (World.ownsRow.alloc R3 _) ⟨w3.heap.size, 0, none⟩ 1 1 [(k : Int), v] rfl rfl (cell_two_new _ _ _ _) (by unfold maxLen; omega) (by omega) (by simp; omega) ?_; intro A5 c5 w5 R5 B5)
            exact ⟨⟨k + 1, A5, _, c5, _, by omega, by omega, by go_num, rfl, R5, Lib.hid (by rw [HE.out, hz.out]), (hbl3.alloc hs3 _).trans B5⟩, by simp [intOf]; omega⟩
          · have hkk' : ((k : Int) == key) = false := by simpa using hkk
            cases y
            · have HE := Lib.hid (show PR (putTo l key v (k + 1)) = PR (putTo l key v k) by rw [putTo_succ, PR_append]; unfold putG; rw [if_neg hkk, HVA.out]; simp [PR])
              clear hkk
              go_wp2
              exact ⟨⟨k + 1, A0, n0, c0, zs, by omega, by omega, by go_num, rfl, R3, Lib.hid (by rw [HE.out, hz.out]), hbl3⟩, by simp [intOf]; omega⟩
            · have HE := Lib.hid (show PR (putTo l key v (k + 1)) = PR (putTo l key v k) ++ [(k : Int), x] by rw [putTo_succ, PR_append]; unfold putG; rw [if_neg hkk, HVA.out]; simp [PR])
              clear hkk
              go_wp2_with (at_builtin; refine wpList_append_row rfl _ _ 41 rfl 101 (.agg #[.int .i64 0, .int .i64 0]) 2 16 Try.underlying41 info_Pair (by first | kernel_rfl | simp [Value.cells]) (by decide) w.heap.size A0 n0 c0 zs rfl (World.ownsRow.alloc R3 _) ⟨w3.heap.size, 0, none⟩ 1 1 [(k : Int), x] rfl rfl (cell_two_new _ _ _ _) (by unfold maxLen; omega) (by omega) (by simp; omega) ?_; intro A5 c5 w5 R5 B5)
              exact ⟨⟨k + 1, A5, _, c5, _, by omega, by omega, by go_num, rfl, R5, Lib.hid (by rw [HE.out, hz.out]), (hbl3.alloc hs3 _).trans B5⟩, by simp [intOf]; omega⟩
        · have hkn : k = 10 := by omega
          subst hkn
          go_wp2
          refine bodyPost_ret (v := .tuple #[.slice A0 n0 c0, .bool true]) (by simp [results, Try.results40, go_sem, *]) rfl ?_
          have hzz := hz.out
          rw [HT.out] at hzz
          subst hzz
          refine retPut HR.out ?_ R hbl
          have := R.len
          rw [PR_len] at this
          omega
    · have hr' : rightB key v = false := by simpa using hr
      have HR := Lib.hid (show putR l key v = (l, false) by unfold putR; rw [if_pos hpa, if_neg hr])
      clear hpa hl hS hr
      go_enter Try.func40, Try.ntmps40
      go_wp2_with fail
      refine c1.mono ?_
      rintro e w1 ⟨rfl, b1⟩
      go_wp2_with fail
      refine (l14Right_any key v w1).mono ?_
      rintro e w2 ⟨rfl, b2⟩
      rw [hr']
      have hbl2 := bthen b1 b2
      go_wp2_with fail
      refine (l14Copy_any A n cap l w2 (HS.out.below hbl2) HL.out (by omega) hA).mono ?_
      rintro e w3 ⟨A3, c3, rfl, R3, b3⟩
      go_wp2
      refine bodyPost_ret (v := .tuple #[.slice A3 n c3, .bool false]) (by simp [results, Try.results40, go_sem, *]) rfl ?_
      exact retPut HR.out HL.out.symm (R3.mono hbl2.size) (bthen hbl2 b3)
  · have hpa' : pairsB l = false := by simpa using hpa
    have HR := Lib.hid (show putR l key v = ([], false) by unfold putR; rw [if_neg hpa])
    rw [hpa'] at c1
    go_enter Try.func40, Try.ntmps40
    go_wp2_with fail
    refine c1.mono ?_
    rintro e w1 ⟨rfl, b1⟩
    go_wp2
    refine bodyPost_ret (v := .tuple #[.slice (some ⟨w1.heap.size, 0, none⟩) 0 0, .bool false]) (by simp [results, Try.results40, go_sem, *]) rfl ?_
    exact retPut HR.out rfl (row0p (Blk.new w1 _ _) b1.size) (b1.alloc b1.size _)
end Go.Proofs.Ytgpllffiahccjaa
