/- UnlikeIn: the program's and the reference's. -/
import Derived.Test.YtgpllffiahccjaaP4
import Derived.Test.YtgpllffiahccjaaSInt64
import Derived.Test.YtgpllffiahccjaaApp
import Derived.Test.YtgpllffiahccjaaNm
namespace Go.Proofs.Ytgpllffiahccjaa
set_option linter.unusedSimpArgs false
set_option linter.unusedVariables false
attribute [local go_sem] n_lt2 n_lt3 n_lt4 n_le2 n_le3
open Go.RowKit

theorem row0i {w : World} {g lo : Nat} {E : TypeId} {s : Nat} (h : Blk w g E #[]) (hlo : lo ≤ g) : Row w lo E s (some ⟨g, 0, none⟩) 0 0 [] :=
  h.row hlo (by simp [maxLen]) (by simp) (by simp) (fun j hj => absurd hj (by omega))
def unAt (a b : List Pr) (k : Nat) : Bool := !(decide (valAt a k = valAt b k))
def unUpto (a b : List Pr) (k : Nat) : List Int := ((List.range k).filter (unAt a b)).map (fun (i : Nat) => (i : Int))
def unlikeL (a b : List Pr) : List Int := if pairsB a = true ∧ pairsB b = true then unUpto a b 10 else []
theorem unUpto_len (a b : List Pr) (k : Nat) : (unUpto a b k).length ≤ k := by
  unfold unUpto
  rw [List.length_map]
  exact Nat.le_trans (List.length_filter_le _ _) (by simp)
theorem unUpto_same {a b : List Pr} {k : Nat} (h : valAt a k = valAt b k) : unUpto a b (k + 1) = unUpto a b k := by
  unfold unUpto
  rw [List.range_succ, List.filter_append]
  simp [unAt, h]
theorem unUpto_more {a b : List Pr} {k : Nat} (h : valAt a k ≠ valAt b k) : unUpto a b (k + 1) = unUpto a b k ++ [(k : Int)] := by
  unfold unUpto
  rw [List.range_succ, List.filter_append]
  simp [unAt, h]
theorem unlikeL_len (a b : List Pr) : (unlikeL a b).length ≤ 10 := by
  unfold unlikeL
  split
  · exact unUpto_len a b 10
  · simp
attribute [local go_sem] Ext.cell Ext.frozen
set_option maxHeartbeats 4000000 in
theorem unlikeIn_any (A B : Option Addr) (n m cap cap' : Nat) (l r : List Pr) (w : World) (hS : Sl w 2 A n (PR l)) (hT : Sl w 2 B m (PR r)) (hl : l.length = n) (hr : r.length = m) (hn : n ≤ maxLen) (hm : m ≤ maxLen) :
    Calls Try.prog 29 #[.slice A n cap, .slice B m cap'] w (RetRow w 2 1 (unlikeL l r).length (unlikeL l r)) := by
  by_cases hpa : pairsB l = true
  · by_cases hpb : pairsB r = true
    · have hv : unlikeL l r = unUpto l r 10 := by unfold unlikeL; rw [if_pos ⟨hpa, hpb⟩]
      rw [hv]
      clear hv
      have HS := Lib.hid hS
      have HT := Lib.hid hT
      have c1 := pairsOk_any A n cap l w hS hl hn
      rw [hpa] at c1
      go_enter Try.func29, Try.ntmps29
      go_wp2_with fail
      refine c1.mono ?_
      rintro e w1 ⟨rfl, f1⟩
      have c2 := pairsOk_any B m cap' r w1 (hT.below f1) hr hm
      rw [hpb] at c2
      go_wp2_with fail
      refine c2.mono ?_
      rintro e w2 ⟨rfl, b2⟩
      have f2 := bthen f1 b2
      clear c1 c2 b2 hS hT f1
      clear hpa hpb
      go_wp2
      go_loopw [5, 6] (fun o i wr => ∃ k A0 n0 c0 zs, k ≤ 10 ∧ n0 ≤ k ∧ i = .int .i64 (k : Nat) ∧ o = .slice A0 n0 c0 ∧ Row wr w.heap.size 2 1 A0 n0 c0 zs ∧ Hid (zs = unUpto l r k) ∧ Below w.heap.size w wr) (fun _ i _ => 10 - (intOf i).toNat)
      case atStart => exact ⟨0, _, _, _, _, by omega, Nat.le_refl _, rfl, rfl, row0i (Blk.new w2 _ _) f2.size, Lib.hid rfl, f2.alloc f2.size _⟩
      case round =>
        obtain ⟨k, A0, n0, c0, zs, hk, hn0, rfl, rfl, R, hz, hbl⟩ := hrel
        by_cases hlt : k < 10
        · have c3 := valAt_any A n cap l k wr (HS.out.below hbl) hl hn
          obtain ⟨⟨x, p⟩, hx⟩ : ∃ v, valAt l k = v := ⟨_, rfl⟩
          rw [hx] at c3
          have HX := Lib.hid hx
          clear hx
          have hk9 : (k : Int) ≤ 9 := by omega
          go_wp2_with fail
          refine c3.mono ?_
          rintro e w3 ⟨rfl, b3⟩
          have f3 := bstep b3 hbl hbl.size
          have c4 := valAt_any B m cap' r k w3 (HT.out.below f3) hr hm
          obtain ⟨⟨y, q⟩, hy⟩ : ∃ v, valAt r k = v := ⟨_, rfl⟩
          rw [hy] at c4
          have HY := Lib.hid hy
          clear hy
          go_wp2_with fail
          refine c4.mono ?_
          rintro e w4 ⟨rfl, b4⟩
          have f4 := bstep b4 f3 f3.size
          have R4 := (R.below b3).below b4
          clear R c3 c4 b3 b4 f3
          by_cases hs : x = y
          · subst hs
            rcases p with _ | _ <;> rcases q with _ | _
            · have hE := unUpto_same (a := l) (b := r) (k := k) (by rw [HX.out, HY.out])
              have HE := Lib.hid hE
              clear hE
              go_wp2
              exact ⟨⟨k + 1, A0, n0, c0, zs, by omega, by omega, by go_num, rfl, R4, Lib.hid (by rw [HE.out, hz.out]), f4⟩, by simp [intOf]; omega⟩
            · have hE := unUpto_more (a := l) (b := r) (k := k) (by rw [HX.out, HY.out]; simp [*])
              have HE := Lib.hid hE
              clear hE
              go_wp2_with (at_builtin; refine wpList_append_row rfl _ _ 39 rfl 2 (.int .i64 0) 1 8 Try.underlying39 info_Int64 rfl (by decide) w.heap.size A0 n0 c0 zs rfl (World.ownsRow.alloc R4 _) ⟨w4.heap.size, 0, none⟩ 1 1 [(k : Int)] rfl rfl (cell_one_new _ _ _) (by unfold maxLen; omega) (by omega) (by have := f4.size; simp; omega) ?_; intro A5 c5 w5 R5 B5)
              exact ⟨⟨k + 1, A5, _, c5, _, by omega, by omega, by go_num, rfl, R5, Lib.hid (by rw [HE.out, hz.out]), (f4.alloc f4.size _).trans B5⟩, by simp [intOf]; omega⟩
            · have hE := unUpto_more (a := l) (b := r) (k := k) (by rw [HX.out, HY.out]; simp [*])
              have HE := Lib.hid hE
              clear hE
              go_wp2_with (at_builtin; refine wpList_append_row rfl _ _ 39 rfl 2 (.int .i64 0) 1 8 Try.underlying39 info_Int64 rfl (by decide) w.heap.size A0 n0 c0 zs rfl (World.ownsRow.alloc R4 _) ⟨w4.heap.size, 0, none⟩ 1 1 [(k : Int)] rfl rfl (cell_one_new _ _ _) (by unfold maxLen; omega) (by omega) (by have := f4.size; simp; omega) ?_; intro A5 c5 w5 R5 B5)
              exact ⟨⟨k + 1, A5, _, c5, _, by omega, by omega, by go_num, rfl, R5, Lib.hid (by rw [HE.out, hz.out]), (f4.alloc f4.size _).trans B5⟩, by simp [intOf]; omega⟩
            · have hE := unUpto_same (a := l) (b := r) (k := k) (by rw [HX.out, HY.out])
              have HE := Lib.hid hE
              clear hE
              go_wp2
              exact ⟨⟨k + 1, A0, n0, c0, zs, by omega, by omega, by go_num, rfl, R4, Lib.hid (by rw [HE.out, hz.out]), f4⟩, by simp [intOf]; omega⟩
          · have hs' : (x == y) = false := by simpa using hs
            have hE := unUpto_more (a := l) (b := r) (k := k) (by rw [HX.out, HY.out]; simp [hs])
            have HE := Lib.hid hE
            clear hE
            go_wp2_with (at_builtin; refine wpList_append_row rfl _ _ 39 rfl 2 (.int .i64 0) 1 8 Try.underlying39 info_Int64 rfl (by decide) w.heap.size A0 n0 c0 zs rfl (World.ownsRow.alloc R4 _) ⟨w4.heap.size, 0, none⟩ 1 1 [(k : Int)] rfl rfl (cell_one_new _ _ _) (by unfold maxLen; omega) (by omega) (by have := f4.size; simp; omega) ?_; intro A5 c5 w5 R5 B5)
            exact ⟨⟨k + 1, A5, _, c5, _, by omega, by omega, by go_num, rfl, R5, Lib.hid (by rw [HE.out, hz.out]), (f4.alloc f4.size _).trans B5⟩, by simp [intOf]; omega⟩
        · have hk10 : k = 10 := by omega
          subst hk10
          go_wp2
          go_ret
          have hzz := hz.out
          subst hzz
          have hln := R.len
          rw [Nat.mul_one] at hln
          rw [hln]
          exact RetRow.mk R hbl
    · have hpb' : pairsB r = false := by simpa using hpb
      have hv : unlikeL l r = [] := by unfold unlikeL; rw [if_neg (fun h => hpb h.2)]
      rw [hv]
      have c1 := pairsOk_any A n cap l w hS hl hn
      rw [hpa] at c1
      go_enter Try.func29, Try.ntmps29
      go_wp2_with fail
      refine c1.mono ?_
      rintro e w1 ⟨rfl, f1⟩
      have c2 := pairsOk_any B m cap' r w1 (hT.below f1) hr hm
      rw [hpb'] at c2
      go_wp2_with fail
      refine c2.mono ?_
      rintro e w2 ⟨rfl, b2⟩
      have f2 := bthen f1 b2
      go_wp2
      go_ret
      exact RetRow.mk (Row.nil _ _ _ _) f2
  · have hpa' : pairsB l = false := by simpa using hpa
    have hv : unlikeL l r = [] := by unfold unlikeL; rw [if_neg (fun h => hpa h.1)]
    rw [hv]
    have c1 := pairsOk_any A n cap l w hS hl hn
    rw [hpa'] at c1
    go_enter Try.func29, Try.ntmps29
    go_wp2_with fail
    refine c1.mono ?_
    rintro e w1 ⟨rfl, f1⟩
    go_wp2
    go_ret
    exact RetRow.mk (Row.nil _ _ _ _) f1
end Go.Proofs.Ytgpllffiahccjaa
