/- StateNumbers, the program's and the reference's. -/
import Derived.Test.YtodkcanhlpgpgaaS1
import Derived.Test.YtodkcanhlpgpgaaP6
import Derived.Test.YtodkcanhlpgpgaaJ6
import Derived.Test.YtodkcanhlpgpgaaLease7
import Derived.Test.YtodkcanhlpgpgaaP7
namespace Go.Proofs.Ytodkcanhlpgpgaa
set_option linter.unusedSimpArgs false
set_option linter.unusedVariables false
attribute [local go_sem] n_lt2 n_lt3 n_lt4 n_le2 n_le3
open Go.RowKit
def stateNumL (i0 t0 l0 l1 l2 : Int) (pl : List Pr) (ql : List Jb) : List Int := if stateB i0 t0 l0 l1 l2 pl ql = true then [i0, t0] ++ ((pl.length : Int) :: PR pl) ++ ((ql.length : Int) :: JB ql) ++ [l0, l1, l2] else []
theorem stateB_parts {i0 t0 l0 l1 l2 : Int} {pl : List Pr} {ql : List Jb} (h : stateB i0 t0 l0 l1 l2 pl ql = true) : pairsB pl = true ∧ jobsB ql = true ∧ leaseB l0 l1 l2 = true := by
  unfold stateB at h
  simp only [Bool.and_eq_true] at h
  exact ⟨h.2.2.1, h.2.2.2.1, h.2.2.2.2.1⟩
theorem jobsB_le8 {l : List Jb} (h : jobsB l = true) : l.length ≤ 8 := by
  unfold jobsB at h
  simp only [Bool.and_eq_true, decide_eq_true_eq] at h
  exact h.1
theorem retRow_eq {w w' : World} {E s : Nat} {zs ys : List Int} {e : Ending} (h : ys = zs) (hr : RetRow w E s zs.length zs e w') : RetRow w E s ys.length ys e w' := by subst h; exact hr
theorem stateNumL_len (i0 t0 l0 l1 l2 : Int) (pl : List Pr) (ql : List Jb) : (stateNumL i0 t0 l0 l1 l2 pl ql).length ≤ 67 := by
  unfold stateNumL
  split
  · rename_i h
    have h1 := pairsB_len (stateB_parts h).1
    have h2 := jobsB_le8 (stateB_parts h).2.1
    simp only [List.length_append, List.length_cons, List.length_nil, PR_len, JB_len]
    omega
  · simp
theorem row2i {w : World} {g lo : Nat} {E : TypeId} {a b : Int} (h : Blk w g E #[.int .i64 a, .int .i64 b]) (hlo : lo ≤ g) : Row w lo E 1 (some ⟨g, 0, none⟩) 2 2 [a, b] :=
  h.row hlo (by simp [maxLen]) rfl rfl (fun j hj => by rcases (by omega : j = 0 ∨ j = 1) with rfl | rfl <;> rfl)
theorem cell_three_at (w : World) (x y z : Value) (t : TypeId) (g : Nat) (hg : g = w.heap.size) : ∀ j u, [x, y, z][j]? = some u → (w.alloc (.cells #[x, y, z] t)).cell? ((⟨g, 0, none⟩ : Addr).add j) = some u := by
  intro j u hj
  subst hg
  match j, hj with
  | 0, hj => simp at hj; subst hj; simp [Addr.add]
  | 1, hj => simp at hj; subst hj; simp [Addr.add]
  | 2, hj => simp at hj; subst hj; simp [Addr.add]
theorem row_some {w : World} {lo : Nat} {e : TypeId} {s : Nat} {A : Option Addr} {n cap : Nat} {zs : List Int} (h : Row w lo e s A n cap zs) (hn : 0 < n) : ∃ ad, A = some ad := by
  obtain ⟨g, cs, hA, _⟩ := h.blk hn
  exact ⟨_, hA⟩
attribute [local go_sem] Ext.cell Ext.frozen
set_option maxRecDepth 100000 in
set_option maxHeartbeats 4000000 in
theorem stateNumbers_any (A : Option Addr) (n c : Nat) (B : Option Addr) (m d : Nat) (i0 t0 l0 l1 l2 : Int) (pl : List Pr) (ql : List Jb) (w : World) (hP : Sl w 2 A n (PR pl)) (hQ : Sl w 5 B m (JB ql)) (hl : pl.length = n) (hr : ql.length = m) (hn : n ≤ maxLen) (hm : m ≤ maxLen) :
    Calls Try.prog 23 #[.agg #[.int .i64 i0, .int .i64 t0, .slice A n c, .slice B m d, .int .i64 l0, .int .i64 l1, .int .i64 l2]] w (RetRow w 2 1 (stateNumL i0 t0 l0 l1 l2 pl ql).length (stateNumL i0 t0 l0 l1 l2 pl ql)) := by
  have hL := Lib.hid hl
  have hR := Lib.hid hr
  have HP := Lib.hid hP
  have HQ := Lib.hid hQ
  clear hP hQ hl hr
  have hls := Lib.hid (stateNumL_len i0 t0 l0 l1 l2 pl ql)
  go_enter Try.func23, Try.ntmps23
  go_wp2_with fail
  refine calls_named ?_
  rintro v0 hv0
  have f0 : Below w.heap.size w v0 := by rw [hv0]; (repeat' (first | (with_reducible exact Below.refl _ _) | (with_reducible assumption) | (with_reducible refine Below.alloc ?_ ?_ _) | (with_reducible refine Below.drew ?_) | (with_reducible refine Below.setCell ?_ ?_ _) | (with_reducible refine bstep (by assumption) ?_ ?_) | (with_reducible exact Nat.le_refl _) | omega | (simp [*]; done) | (simp [*]; omega)))
  have z0 : w.heap.size + 1 ≤ v0.heap.size := by rw [hv0]; simp [size_set]
  have HP_0 := Lib.hid (HP.out.below f0)
  have HP_lt := Lib.hid (fun hn => HP.out.lt hn)
  have HQ_0 := Lib.hid (HQ.out.below f0)
  have HQ_lt := Lib.hid (fun hn => HQ.out.lt hn)
  have Ha_0 : Hid (Blk v0 w.heap.size 34 #[.int .i64 i0, .int .i64 t0, .slice A n c, .slice B m d, .int .i64 l0, .int .i64 l1, .int .i64 l2]) := by rw [hv0]; exact Blk.new_at _ _ _ _ (by simp)
  clear hv0
  have lt_a := Ha_0.out.lt
  have r_a0 : v0.cell? ⟨w.heap.size, 0, none⟩ = some (.int .i64 i0) := Ha_0.out.cell 0
  have r_a1 : v0.cell? ⟨w.heap.size, 1, none⟩ = some (.int .i64 t0) := Ha_0.out.cell 1
  have r_a2 : v0.cell? ⟨w.heap.size, 2, none⟩ = some (.slice A n c) := Ha_0.out.cell 2
  have r_a3 : v0.cell? ⟨w.heap.size, 3, none⟩ = some (.slice B m d) := Ha_0.out.cell 3
  have r_a4 : v0.cell? ⟨w.heap.size, 4, none⟩ = some (.int .i64 l0) := Ha_0.out.cell 4
  have r_a5 : v0.cell? ⟨w.heap.size, 5, none⟩ = some (.int .i64 l1) := Ha_0.out.cell 5
  have r_a6 : v0.cell? ⟨w.heap.size, 6, none⟩ = some (.int .i64 l2) := Ha_0.out.cell 6
  have cc := stateOk_any A n c B m d i0 t0 l0 l1 l2 pl ql v0 HP_0.out HQ_0.out hL.out hR.out hn hm
  cases q1 : stateB i0 t0 l0 l1 l2 pl ql with
  | false =>
    have hv : stateNumL i0 t0 l0 l1 l2 pl ql = [] := by unfold stateNumL; rw [q1]; rfl
    rw [q1] at cc
    have HV := Lib.hid hv
    clear hv q1
    refine (cc).mono ?_
    rintro e v1 ⟨rfl, b1⟩
    have f1 := bthen f0 b1
    have z1 := b1.size
    have HP_1 := Lib.hid (HP_0.out.below b1)
    have HQ_1 := Lib.hid (HQ_0.out.below b1)
    have Ha_1 := Lib.hid (Ha_0.out.below b1)
    clear lt_a r_a0 r_a1 r_a2 r_a3 r_a4 r_a5 r_a6
    clear HP_0 HQ_0 Ha_0
    have lt_a := Ha_1.out.lt
    have r_a0 : v1.cell? ⟨w.heap.size, 0, none⟩ = some (.int .i64 i0) := Ha_1.out.cell 0
    have r_a1 : v1.cell? ⟨w.heap.size, 1, none⟩ = some (.int .i64 t0) := Ha_1.out.cell 1
    have r_a2 : v1.cell? ⟨w.heap.size, 2, none⟩ = some (.slice A n c) := Ha_1.out.cell 2
    have r_a3 : v1.cell? ⟨w.heap.size, 3, none⟩ = some (.slice B m d) := Ha_1.out.cell 3
    have r_a4 : v1.cell? ⟨w.heap.size, 4, none⟩ = some (.int .i64 l0) := Ha_1.out.cell 4
    have r_a5 : v1.cell? ⟨w.heap.size, 5, none⟩ = some (.int .i64 l1) := Ha_1.out.cell 5
    have r_a6 : v1.cell? ⟨w.heap.size, 6, none⟩ = some (.int .i64 l2) := Ha_1.out.cell 6
    go_wp2
    go_ret
    exact retRow_eq HV.out (RetRow.mk (Row.nil _ _ _ _) f1)
  | true =>
    have hv : stateNumL i0 t0 l0 l1 l2 pl ql = [i0, t0] ++ ((n : Int) :: PR pl) ++ ((m : Int) :: JB ql) ++ [l0, l1, l2] := by unfold stateNumL; rw [if_pos q1, hL.out, hR.out]
    rw [q1] at cc
    have HV := Lib.hid hv
    obtain ⟨hpa, hja, hle⟩ := stateB_parts q1
    have hn10 : n ≤ 10 := by have := pairsB_len hpa; have := hL.out; omega
    have hm8 : m ≤ 8 := by have := jobsB_le8 hja; have := hR.out; omega
    have HPA := Lib.hid hpa
    have HJA := Lib.hid hja
    have HLE := Lib.hid hle
    clear hv q1 hpa hja hle
    refine (cc).mono ?_
    rintro e v1 ⟨rfl, b1⟩
    have f1 := bthen f0 b1
    have z1 := b1.size
    have HP_1 := Lib.hid (HP_0.out.below b1)
    have HQ_1 := Lib.hid (HQ_0.out.below b1)
    have Ha_1 := Lib.hid (Ha_0.out.below b1)
    clear lt_a r_a0 r_a1 r_a2 r_a3 r_a4 r_a5 r_a6
    clear HP_0 HQ_0 Ha_0
    have lt_a := Ha_1.out.lt
    have r_a0 : v1.cell? ⟨w.heap.size, 0, none⟩ = some (.int .i64 i0) := Ha_1.out.cell 0
    have r_a1 : v1.cell? ⟨w.heap.size, 1, none⟩ = some (.int .i64 t0) := Ha_1.out.cell 1
    have r_a2 : v1.cell? ⟨w.heap.size, 2, none⟩ = some (.slice A n c) := Ha_1.out.cell 2
    have r_a3 : v1.cell? ⟨w.heap.size, 3, none⟩ = some (.slice B m d) := Ha_1.out.cell 3
    have r_a4 : v1.cell? ⟨w.heap.size, 4, none⟩ = some (.int .i64 l0) := Ha_1.out.cell 4
    have r_a5 : v1.cell? ⟨w.heap.size, 5, none⟩ = some (.int .i64 l1) := Ha_1.out.cell 5
    have r_a6 : v1.cell? ⟨w.heap.size, 6, none⟩ = some (.int .i64 l2) := Ha_1.out.cell 6
    clear cc
    have hlen : ([i0, t0] ++ ((n : Int) :: PR pl) ++ ((m : Int) :: JB ql) ++ [l0, l1, l2]).length = 2 + (1 + 2 * n) + (1 + 5 * m) + 3 := by
      simp only [List.length_append, List.length_cons, List.length_nil, PR_len, JB_len, hL.out, hR.out]; omega
    have HLEN := Lib.hid hlen
    clear hlen
    have Ha1 := Ha_1
    clear Ha_1
    have w1 : w.heap.size < v1.heap.size := Ha1.out.lt
    go_wp2_with fail
    refine calls_named ?_
    rintro v2 hv2
    have B2 : Below v1.heap.size v1 v2 := by rw [hv2]; (repeat' (first | (with_reducible exact Below.refl _ _) | (with_reducible assumption) | (with_reducible refine Below.alloc ?_ ?_ _) | (with_reducible refine Below.drew ?_) | (with_reducible refine Below.setCell ?_ ?_ _) | (with_reducible refine bstep (by assumption) ?_ ?_) | (with_reducible exact Nat.le_refl _) | omega | (simp [*]; done) | (simp [*]; omega)))
    have C2 := Lib.hid (show Cur v2 v1.heap.size v1.heap.size 2 87 0 [] by rw [hv2]; exact Cur.alloc ⟨none, 0, Blk.new _ _ _, Row.nil _ _ _ _, by simp, Nat.le_refl _⟩ _)
    have N2 := Lib.hid (show ∀ j u, (ints [i0, t0])[j]? = some u → v2.cell? ((⟨v1.heap.size + 1, 0, none⟩ : Addr).add j) = some u by rw [hv2]; exact cell_two_at _ _ _ _ _ (by simp))
    clear hv2
    clear lt_a r_a0 r_a1 r_a2 r_a3 r_a4 r_a5 r_a6
    refine (put_any v1.heap.size v1.heap.size 0 2 2 [] [i0, t0] _ v2 C2.out rfl N2.out (by omega)).mono ?_
    rintro e v3 ⟨rfl, C3, b3⟩
    have B3 := B2.trans b3
    have HC3 := Lib.hid C3
    clear C3 C2 N2
    have Hc_3 := Ha1.out.below B3
    have lt_c := Hc_3.lt
    have r_c0 : v3.cell? ⟨w.heap.size, 0, none⟩ = some (.int .i64 i0) := Hc_3.cell 0
    have r_c1 : v3.cell? ⟨w.heap.size, 1, none⟩ = some (.int .i64 t0) := Hc_3.cell 1
    have r_c2 : v3.cell? ⟨w.heap.size, 2, none⟩ = some (.slice A n c) := Hc_3.cell 2
    have r_c3 : v3.cell? ⟨w.heap.size, 3, none⟩ = some (.slice B m d) := Hc_3.cell 3
    have r_c4 : v3.cell? ⟨w.heap.size, 4, none⟩ = some (.int .i64 l0) := Hc_3.cell 4
    have r_c5 : v3.cell? ⟨w.heap.size, 5, none⟩ = some (.int .i64 l1) := Hc_3.cell 5
    have r_c6 : v3.cell? ⟨w.heap.size, 6, none⟩ = some (.int .i64 l2) := Hc_3.cell 6
    clear Hc_3
    go_wp2_with fail
    refine (putPairs_any A n c v1.heap.size (0 + 2) pl ([] ++ [i0, t0]) v1 v3 HP_1.out hL.out hn10 (by omega) B3 HC3.out).mono ?_
    rintro e v4 ⟨rfl, C4, B4⟩
    have HC4 := Lib.hid C4
    clear C4 HC3
    clear lt_c r_c0 r_c1 r_c2 r_c3 r_c4 r_c5 r_c6
    have Hc_4 := Ha1.out.below B4
    have lt_c := Hc_4.lt
    have r_c0 : v4.cell? ⟨w.heap.size, 0, none⟩ = some (.int .i64 i0) := Hc_4.cell 0
    have r_c1 : v4.cell? ⟨w.heap.size, 1, none⟩ = some (.int .i64 t0) := Hc_4.cell 1
    have r_c2 : v4.cell? ⟨w.heap.size, 2, none⟩ = some (.slice A n c) := Hc_4.cell 2
    have r_c3 : v4.cell? ⟨w.heap.size, 3, none⟩ = some (.slice B m d) := Hc_4.cell 3
    have r_c4 : v4.cell? ⟨w.heap.size, 4, none⟩ = some (.int .i64 l0) := Hc_4.cell 4
    have r_c5 : v4.cell? ⟨w.heap.size, 5, none⟩ = some (.int .i64 l1) := Hc_4.cell 5
    have r_c6 : v4.cell? ⟨w.heap.size, 6, none⟩ = some (.int .i64 l2) := Hc_4.cell 6
    clear Hc_4
    go_wp2_with fail
    refine (putJobs_any B m d v1.heap.size (0 + 2 + 1 + 2 * n) ql ([] ++ [i0, t0] ++ ((n : Int) :: PR pl)) v1 v4 HQ_1.out hR.out (by omega) (by omega) B4 HC4.out).mono ?_
    rintro e v5 ⟨rfl, C5, B5⟩
    have HC5 := Lib.hid C5
    clear C5 HC4
    clear lt_c r_c0 r_c1 r_c2 r_c3 r_c4 r_c5 r_c6
    have Hc_5 := Ha1.out.below B5
    have lt_c := Hc_5.lt
    have r_c0 : v5.cell? ⟨w.heap.size, 0, none⟩ = some (.int .i64 i0) := Hc_5.cell 0
    have r_c1 : v5.cell? ⟨w.heap.size, 1, none⟩ = some (.int .i64 t0) := Hc_5.cell 1
    have r_c2 : v5.cell? ⟨w.heap.size, 2, none⟩ = some (.slice A n c) := Hc_5.cell 2
    have r_c3 : v5.cell? ⟨w.heap.size, 3, none⟩ = some (.slice B m d) := Hc_5.cell 3
    have r_c4 : v5.cell? ⟨w.heap.size, 4, none⟩ = some (.int .i64 l0) := Hc_5.cell 4
    have r_c5 : v5.cell? ⟨w.heap.size, 5, none⟩ = some (.int .i64 l1) := Hc_5.cell 5
    have r_c6 : v5.cell? ⟨w.heap.size, 6, none⟩ = some (.int .i64 l2) := Hc_5.cell 6
    clear Hc_5
    go_wp2_with fail
    refine calls_named ?_
    rintro v6 hv6
    have B6 : Below v1.heap.size v1 v6 := by rw [hv6]; exact B5.alloc B5.size _
    have N6 := Lib.hid (show ∀ j u, (ints [l0, l1, l2])[j]? = some u → v6.cell? ((⟨v5.heap.size, 0, none⟩ : Addr).add j) = some u by rw [hv6]; exact cell_three_at _ _ _ _ _ _ rfl)
    have C6 := Lib.hid (HC5.out.alloc (.cells #[.int .i64 l0, .int .i64 l1, .int .i64 l2] 2))
    rw [← hv6] at C6
    clear hv6 HC5
    clear lt_c r_c0 r_c1 r_c2 r_c3 r_c4 r_c5 r_c6
    refine (put_any v1.heap.size v1.heap.size (0 + 2 + 1 + 2 * n + 1 + 5 * m) 3 3 _ [l0, l1, l2] _ v6 C6.out rfl N6.out (by omega)).mono ?_
    rintro e v7 ⟨rfl, C7, b7⟩
    have B7 := B6.trans b7
    obtain ⟨K, hK⟩ : ∃ K, K = 0 + 2 + 1 + 2 * n + 1 + 5 * m + 3 := ⟨_, rfl⟩
    rw [← hK] at C7
    have HK := Lib.hid hK
    clear hK C6 N6
    obtain ⟨A7, c7, K7, R7, hne7, hlo7⟩ := C7
    have q0 : v7.cell? ⟨v1.heap.size, 0, none⟩ = some (.slice A7 K c7) := K7.cell 0
    have hlt7 := K7.lt
    have R7h := Lib.hid R7
    clear K7 R7 hne7 hlo7 b7
    have Hc_7 := Ha1.out.below B7
    have lt_c := Hc_7.lt
    have r_c0 : v7.cell? ⟨w.heap.size, 0, none⟩ = some (.int .i64 i0) := Hc_7.cell 0
    have r_c1 : v7.cell? ⟨w.heap.size, 1, none⟩ = some (.int .i64 t0) := Hc_7.cell 1
    have r_c2 : v7.cell? ⟨w.heap.size, 2, none⟩ = some (.slice A n c) := Hc_7.cell 2
    have r_c3 : v7.cell? ⟨w.heap.size, 3, none⟩ = some (.slice B m d) := Hc_7.cell 3
    have r_c4 : v7.cell? ⟨w.heap.size, 4, none⟩ = some (.int .i64 l0) := Hc_7.cell 4
    have r_c5 : v7.cell? ⟨w.heap.size, 5, none⟩ = some (.int .i64 l1) := Hc_7.cell 5
    have r_c6 : v7.cell? ⟨w.heap.size, 6, none⟩ = some (.int .i64 l2) := Hc_7.cell 6
    clear Hc_7
    go_wp2
    go_ret
    obtain rfl : K = ([i0, t0] ++ ((n : Int) :: PR pl) ++ ((m : Int) :: JB ql) ++ [l0, l1, l2]).length := by have := HK.out; have := HLEN.out; omega
    exact retRow_eq HV.out (RetRow.mk (R7h.out.mono (Nat.le_of_lt w1)) (bthen f1 B7))
set_option maxRecDepth 100000 in
set_option maxHeartbeats 4000000 in
theorem specStateNumbers_any (A : Option Addr) (n c : Nat) (B : Option Addr) (m d : Nat) (i0 t0 l0 l1 l2 : Int) (pl : List Pr) (ql : List Jb) (w : World) (hP : Sl w 2 A n (PR pl)) (hQ : Sl w 5 B m (JB ql)) (hl : pl.length = n) (hr : ql.length = m) (hn : n ≤ maxLen) (hm : m ≤ maxLen) :
    Calls Try.prog 22 #[.agg #[.int .i64 i0, .int .i64 t0, .slice A n c, .slice B m d, .int .i64 l0, .int .i64 l1, .int .i64 l2]] w (RetRow w 2 1 (stateNumL i0 t0 l0 l1 l2 pl ql).length (stateNumL i0 t0 l0 l1 l2 pl ql)) := by
  have hL := Lib.hid hl
  have hR := Lib.hid hr
  have HP := Lib.hid hP
  have HQ := Lib.hid hQ
  clear hP hQ hl hr
  have hls := Lib.hid (stateNumL_len i0 t0 l0 l1 l2 pl ql)
  go_enter Try.func22, Try.ntmps22
  go_wp2_with fail
  refine calls_named ?_
  rintro v0 hv0
  have f0 : Below w.heap.size w v0 := by rw [hv0]; (repeat' (first | (with_reducible exact Below.refl _ _) | (with_reducible assumption) | (with_reducible refine Below.alloc ?_ ?_ _) | (with_reducible refine Below.drew ?_) | (with_reducible refine Below.setCell ?_ ?_ _) | (with_reducible refine bstep (by assumption) ?_ ?_) | (with_reducible exact Nat.le_refl _) | omega | (simp [*]; done) | (simp [*]; omega)))
  have z0 : w.heap.size + 1 ≤ v0.heap.size := by rw [hv0]; simp [size_set]
  have HP_0 := Lib.hid (HP.out.below f0)
  have HP_lt := Lib.hid (fun hn => HP.out.lt hn)
  have HQ_0 := Lib.hid (HQ.out.below f0)
  have HQ_lt := Lib.hid (fun hn => HQ.out.lt hn)
  have Ha_0 : Hid (Blk v0 w.heap.size 34 #[.int .i64 i0, .int .i64 t0, .slice A n c, .slice B m d, .int .i64 l0, .int .i64 l1, .int .i64 l2]) := by rw [hv0]; exact Blk.new_at _ _ _ _ (by simp)
  clear hv0
  have lt_a := Ha_0.out.lt
  have r_a0 : v0.cell? ⟨w.heap.size, 0, none⟩ = some (.int .i64 i0) := Ha_0.out.cell 0
  have r_a1 : v0.cell? ⟨w.heap.size, 1, none⟩ = some (.int .i64 t0) := Ha_0.out.cell 1
  have r_a2 : v0.cell? ⟨w.heap.size, 2, none⟩ = some (.slice A n c) := Ha_0.out.cell 2
  have r_a3 : v0.cell? ⟨w.heap.size, 3, none⟩ = some (.slice B m d) := Ha_0.out.cell 3
  have r_a4 : v0.cell? ⟨w.heap.size, 4, none⟩ = some (.int .i64 l0) := Ha_0.out.cell 4
  have r_a5 : v0.cell? ⟨w.heap.size, 5, none⟩ = some (.int .i64 l1) := Ha_0.out.cell 5
  have r_a6 : v0.cell? ⟨w.heap.size, 6, none⟩ = some (.int .i64 l2) := Ha_0.out.cell 6
  have cc := specStateOk_any A n c B m d i0 t0 l0 l1 l2 pl ql v0 HP_0.out HQ_0.out hL.out hR.out hn hm
  cases q1 : stateB i0 t0 l0 l1 l2 pl ql with
  | false =>
    have hv : stateNumL i0 t0 l0 l1 l2 pl ql = [] := by unfold stateNumL; rw [q1]; rfl
    rw [q1] at cc
    have HV := Lib.hid hv
    clear hv q1
    refine (cc).mono ?_
    rintro e v1 ⟨rfl, b1⟩
    have f1 := bthen f0 b1
    have z1 := b1.size
    have HP_1 := Lib.hid (HP_0.out.below b1)
    have HQ_1 := Lib.hid (HQ_0.out.below b1)
    have Ha_1 := Lib.hid (Ha_0.out.below b1)
    clear lt_a r_a0 r_a1 r_a2 r_a3 r_a4 r_a5 r_a6
    clear HP_0 HQ_0 Ha_0
    have lt_a := Ha_1.out.lt
    have r_a0 : v1.cell? ⟨w.heap.size, 0, none⟩ = some (.int .i64 i0) := Ha_1.out.cell 0
    have r_a1 : v1.cell? ⟨w.heap.size, 1, none⟩ = some (.int .i64 t0) := Ha_1.out.cell 1
    have r_a2 : v1.cell? ⟨w.heap.size, 2, none⟩ = some (.slice A n c) := Ha_1.out.cell 2
    have r_a3 : v1.cell? ⟨w.heap.size, 3, none⟩ = some (.slice B m d) := Ha_1.out.cell 3
    have r_a4 : v1.cell? ⟨w.heap.size, 4, none⟩ = some (.int .i64 l0) := Ha_1.out.cell 4
    have r_a5 : v1.cell? ⟨w.heap.size, 5, none⟩ = some (.int .i64 l1) := Ha_1.out.cell 5
    have r_a6 : v1.cell? ⟨w.heap.size, 6, none⟩ = some (.int .i64 l2) := Ha_1.out.cell 6
    go_wp2
    go_ret
    exact retRow_eq HV.out (RetRow.mk (row0 (Blk.new _ _ _) f1.size) (f1.alloc f1.size _))
  | true =>
    have hv : stateNumL i0 t0 l0 l1 l2 pl ql = [i0, t0] ++ ((n : Int) :: PR pl) ++ ((m : Int) :: JB ql) ++ [l0, l1, l2] := by unfold stateNumL; rw [if_pos q1, hL.out, hR.out]
    rw [q1] at cc
    have HV := Lib.hid hv
    obtain ⟨hpa, hja, hle⟩ := stateB_parts q1
    have hn10 : n ≤ 10 := by have := pairsB_len hpa; have := hL.out; omega
    have hm8 : m ≤ 8 := by have := jobsB_le8 hja; have := hR.out; omega
    have HPA := Lib.hid hpa
    have HJA := Lib.hid hja
    have HLE := Lib.hid hle
    clear hv q1 hpa hja hle
    refine (cc).mono ?_
    rintro e v1 ⟨rfl, b1⟩
    have f1 := bthen f0 b1
    have z1 := b1.size
    have HP_1 := Lib.hid (HP_0.out.below b1)
    have HQ_1 := Lib.hid (HQ_0.out.below b1)
    have Ha_1 := Lib.hid (Ha_0.out.below b1)
    clear lt_a r_a0 r_a1 r_a2 r_a3 r_a4 r_a5 r_a6
    clear HP_0 HQ_0 Ha_0
    have lt_a := Ha_1.out.lt
    have r_a0 : v1.cell? ⟨w.heap.size, 0, none⟩ = some (.int .i64 i0) := Ha_1.out.cell 0
    have r_a1 : v1.cell? ⟨w.heap.size, 1, none⟩ = some (.int .i64 t0) := Ha_1.out.cell 1
    have r_a2 : v1.cell? ⟨w.heap.size, 2, none⟩ = some (.slice A n c) := Ha_1.out.cell 2
    have r_a3 : v1.cell? ⟨w.heap.size, 3, none⟩ = some (.slice B m d) := Ha_1.out.cell 3
    have r_a4 : v1.cell? ⟨w.heap.size, 4, none⟩ = some (.int .i64 l0) := Ha_1.out.cell 4
    have r_a5 : v1.cell? ⟨w.heap.size, 5, none⟩ = some (.int .i64 l1) := Ha_1.out.cell 5
    have r_a6 : v1.cell? ⟨w.heap.size, 6, none⟩ = some (.int .i64 l2) := Ha_1.out.cell 6
    clear cc
    have hlen : ([i0, t0] ++ ((n : Int) :: PR pl) ++ ((m : Int) :: JB ql) ++ [l0, l1, l2]).length = 2 + (1 + 2 * n) + (1 + 5 * m) + 3 := by
      simp only [List.length_append, List.length_cons, List.length_nil, PR_len, JB_len, hL.out, hR.out]; omega
    have HLEN := Lib.hid hlen
    clear hlen
    have Ha1 := Ha_1
    clear Ha_1
    have w1 : w.heap.size < v1.heap.size := Ha1.out.lt
    go_wp2_with fail
    refine calls_named ?_
    rintro v2 hv2
    have B2 : Below v1.heap.size v1 v2 := by rw [hv2]; (repeat' (first | (with_reducible exact Below.refl _ _) | (with_reducible assumption) | (with_reducible refine Below.alloc ?_ ?_ _) | (with_reducible refine Below.drew ?_) | (with_reducible refine Below.setCell ?_ ?_ _) | (with_reducible refine bstep (by assumption) ?_ ?_) | (with_reducible exact Nat.le_refl _) | omega | (simp [*]; done) | (simp [*]; omega)))
    have HR2 := Lib.hid (show Row v2 v1.heap.size 2 1 (some ⟨v1.heap.size, 0, none⟩) 2 2 [i0, t0] by rw [hv2]; exact row2i (Blk.new _ _ _) (Nat.le_refl _))
    clear hv2
    clear lt_a r_a0 r_a1 r_a2 r_a3 r_a4 r_a5 r_a6
    have k3 := specPairsRow_any A n c pl v2 (HP_1.out.below B2) hL.out hn
    rw [show pairsRowL pl = (n : Int) :: PR pl by unfold pairsRowL; rw [if_pos HPA.out, hL.out]] at k3
    rw [show ((n : Int) :: PR pl).length = 1 + 2 * n by simp only [List.length_cons, PR_len, hL.out]; omega] at k3
    refine (k3).mono ?_
    rintro e v3 ⟨A3, c3, rfl, R3, b3⟩
    obtain ⟨ad3, rfl⟩ := row_some R3 (by omega)
    have N3 := Lib.hid (sl_news R3.sl rfl)
    have B3 := bthen B2 b3
    have HR3 := Lib.hid (HR2.out.below b3)
    clear b3 R3 HR2
    clear k3
    have Hc_3 := Ha1.out.below B3
    have lt_c := Hc_3.lt
    have r_c0 : v3.cell? ⟨w.heap.size, 0, none⟩ = some (.int .i64 i0) := Hc_3.cell 0
    have r_c1 : v3.cell? ⟨w.heap.size, 1, none⟩ = some (.int .i64 t0) := Hc_3.cell 1
    have r_c2 : v3.cell? ⟨w.heap.size, 2, none⟩ = some (.slice A n c) := Hc_3.cell 2
    have r_c3 : v3.cell? ⟨w.heap.size, 3, none⟩ = some (.slice B m d) := Hc_3.cell 3
    have r_c4 : v3.cell? ⟨w.heap.size, 4, none⟩ = some (.int .i64 l0) := Hc_3.cell 4
    have r_c5 : v3.cell? ⟨w.heap.size, 5, none⟩ = some (.int .i64 l1) := Hc_3.cell 5
    have r_c6 : v3.cell? ⟨w.heap.size, 6, none⟩ = some (.int .i64 l2) := Hc_3.cell 6
    clear Hc_3
    go_wp2_with (at_builtin; refine wpList_append_row2 rfl _ _ 49 rfl 2 (.int .i64 0) 1 8 Try.underlying49 info_Int64 rfl (by decide) v1.heap.size (some ⟨v1.heap.size, 0, none⟩) 2 2 [i0, t0] rfl HR3.out _ (1 + 2 * n) _ ((n : Int) :: PR pl) rfl (by first | rfl | (simp only [List.length_cons, List.length_nil, PR_len, JB_len, hL.out, hR.out]; omega)) N3.out (by unfold maxLen; omega) (by omega) (Nat.le_trans B3.size (Nat.le_refl _)) ?_; intro A4 c4 v4 R4 b4 W4 X4; have B4 := B3.trans b4; have HR4 := Lib.hid R4; clear b4 W4 X4 R4; clear lt_c r_c0 r_c1 r_c2 r_c3 r_c4 r_c5 r_c6; clear HR3 N3; have Hc_4 := Ha1.out.below B4; have lt_c := Hc_4.lt; have r_c0 : v4.cell? ⟨w.heap.size, 0, none⟩ = some (.int .i64 i0) := Hc_4.cell 0; have r_c1 : v4.cell? ⟨w.heap.size, 1, none⟩ = some (.int .i64 t0) := Hc_4.cell 1; have r_c2 : v4.cell? ⟨w.heap.size, 2, none⟩ = some (.slice A n c) := Hc_4.cell 2; have r_c3 : v4.cell? ⟨w.heap.size, 3, none⟩ = some (.slice B m d) := Hc_4.cell 3; have r_c4 : v4.cell? ⟨w.heap.size, 4, none⟩ = some (.int .i64 l0) := Hc_4.cell 4; have r_c5 : v4.cell? ⟨w.heap.size, 5, none⟩ = some (.int .i64 l1) := Hc_4.cell 5; have r_c6 : v4.cell? ⟨w.heap.size, 6, none⟩ = some (.int .i64 l2) := Hc_4.cell 6; clear Hc_4)
    have k5 := specOrdersRow_any B m d ql v4 (HQ_1.out.below B4) hR.out hm
    rw [show ordersRowL ql = (m : Int) :: JB ql by unfold ordersRowL; rw [if_pos HJA.out, hR.out]] at k5
    rw [show ((m : Int) :: JB ql).length = 1 + 5 * m by simp only [List.length_cons, JB_len, hR.out]; omega] at k5
    refine (k5).mono ?_
    rintro e v5 ⟨A5, c5, rfl, R5, b5⟩
    obtain ⟨ad5, rfl⟩ := row_some R5 (by omega)
    have N5 := Lib.hid (sl_news R5.sl rfl)
    have B5 := bthen B4 b5
    have HR5 := Lib.hid (HR4.out.below b5)
    clear b5 R5 HR4
    clear k5
    clear lt_c r_c0 r_c1 r_c2 r_c3 r_c4 r_c5 r_c6
    have Hc_5 := Ha1.out.below B5
    have lt_c := Hc_5.lt
    have r_c0 : v5.cell? ⟨w.heap.size, 0, none⟩ = some (.int .i64 i0) := Hc_5.cell 0
    have r_c1 : v5.cell? ⟨w.heap.size, 1, none⟩ = some (.int .i64 t0) := Hc_5.cell 1
    have r_c2 : v5.cell? ⟨w.heap.size, 2, none⟩ = some (.slice A n c) := Hc_5.cell 2
    have r_c3 : v5.cell? ⟨w.heap.size, 3, none⟩ = some (.slice B m d) := Hc_5.cell 3
    have r_c4 : v5.cell? ⟨w.heap.size, 4, none⟩ = some (.int .i64 l0) := Hc_5.cell 4
    have r_c5 : v5.cell? ⟨w.heap.size, 5, none⟩ = some (.int .i64 l1) := Hc_5.cell 5
    have r_c6 : v5.cell? ⟨w.heap.size, 6, none⟩ = some (.int .i64 l2) := Hc_5.cell 6
    clear Hc_5
    go_wp2_with (at_builtin; refine wpList_append_row2 rfl _ _ 49 rfl 2 (.int .i64 0) 1 8 Try.underlying49 info_Int64 rfl (by decide) v1.heap.size A4 (2 + (1 + 2 * n)) c4 ([i0, t0] ++ ((n : Int) :: PR pl)) rfl HR5.out _ (1 + 5 * m) _ ((m : Int) :: JB ql) rfl (by first | rfl | (simp only [List.length_cons, List.length_nil, PR_len, JB_len, hL.out, hR.out]; omega)) N5.out (by unfold maxLen; omega) (by omega) (Nat.le_trans B5.size (Nat.le_refl _)) ?_; intro A6 c6 v6 R6 b6 W6 X6; have B6 := B5.trans b6; have HR6 := Lib.hid R6; clear b6 W6 X6 R6; clear lt_c r_c0 r_c1 r_c2 r_c3 r_c4 r_c5 r_c6; clear HR5 N5; have Hc_6 := Ha1.out.below B6; have lt_c := Hc_6.lt; have r_c0 : v6.cell? ⟨w.heap.size, 0, none⟩ = some (.int .i64 i0) := Hc_6.cell 0; have r_c1 : v6.cell? ⟨w.heap.size, 1, none⟩ = some (.int .i64 t0) := Hc_6.cell 1; have r_c2 : v6.cell? ⟨w.heap.size, 2, none⟩ = some (.slice A n c) := Hc_6.cell 2; have r_c3 : v6.cell? ⟨w.heap.size, 3, none⟩ = some (.slice B m d) := Hc_6.cell 3; have r_c4 : v6.cell? ⟨w.heap.size, 4, none⟩ = some (.int .i64 l0) := Hc_6.cell 4; have r_c5 : v6.cell? ⟨w.heap.size, 5, none⟩ = some (.int .i64 l1) := Hc_6.cell 5; have r_c6 : v6.cell? ⟨w.heap.size, 6, none⟩ = some (.int .i64 l2) := Hc_6.cell 6; clear Hc_6)
    have k7 := specLeaseRow_any l0 l1 l2 v6
    rw [show leaseRowL l0 l1 l2 = [l0, l1, l2] by unfold leaseRowL; rw [if_pos HLE.out]] at k7
    replace k7 : Calls Try.prog 65 #[.agg #[.int .i64 l0, .int .i64 l1, .int .i64 l2]] v6 (RetRow v6 2 1 3 [l0, l1, l2]) := k7
    refine (k7).mono ?_
    rintro e v7 ⟨A7, c7, rfl, R7, b7⟩
    obtain ⟨ad7, rfl⟩ := row_some R7 (by omega)
    have N7 := Lib.hid (sl_news R7.sl rfl)
    have B7 := bthen B6 b7
    have HR7 := Lib.hid (HR6.out.below b7)
    clear b7 R7 HR6
    clear k7
    clear lt_c r_c0 r_c1 r_c2 r_c3 r_c4 r_c5 r_c6
    have Hc_7 := Ha1.out.below B7
    have lt_c := Hc_7.lt
    have r_c0 : v7.cell? ⟨w.heap.size, 0, none⟩ = some (.int .i64 i0) := Hc_7.cell 0
    have r_c1 : v7.cell? ⟨w.heap.size, 1, none⟩ = some (.int .i64 t0) := Hc_7.cell 1
    have r_c2 : v7.cell? ⟨w.heap.size, 2, none⟩ = some (.slice A n c) := Hc_7.cell 2
    have r_c3 : v7.cell? ⟨w.heap.size, 3, none⟩ = some (.slice B m d) := Hc_7.cell 3
    have r_c4 : v7.cell? ⟨w.heap.size, 4, none⟩ = some (.int .i64 l0) := Hc_7.cell 4
    have r_c5 : v7.cell? ⟨w.heap.size, 5, none⟩ = some (.int .i64 l1) := Hc_7.cell 5
    have r_c6 : v7.cell? ⟨w.heap.size, 6, none⟩ = some (.int .i64 l2) := Hc_7.cell 6
    clear Hc_7
    go_wp2_with (at_builtin; refine wpList_append_row2 rfl _ _ 49 rfl 2 (.int .i64 0) 1 8 Try.underlying49 info_Int64 rfl (by decide) v1.heap.size A6 (2 + (1 + 2 * n) + (1 + 5 * m)) c6 ([i0, t0] ++ ((n : Int) :: PR pl) ++ ((m : Int) :: JB ql)) rfl HR7.out _ 3 _ [l0, l1, l2] rfl (by first | rfl | (simp only [List.length_cons, List.length_nil, PR_len, JB_len, hL.out, hR.out]; omega)) N7.out (by unfold maxLen; omega) (by omega) (Nat.le_trans B7.size (Nat.le_refl _)) ?_; intro A8 c8 v8 R8 b8 W8 X8; have B8 := B7.trans b8; have HR8 := Lib.hid R8; clear b8 W8 X8 R8; clear lt_c r_c0 r_c1 r_c2 r_c3 r_c4 r_c5 r_c6; clear HR7 N7)
    obtain ⟨K, hK⟩ : ∃ K, K = 2 + (1 + 2 * n) + (1 + 5 * m) + 3 := ⟨_, rfl⟩
    rw [← hK] at HR8 ⊢
    have HK := Lib.hid hK
    clear hK
    go_ret
    obtain rfl : K = ([i0, t0] ++ ((n : Int) :: PR pl) ++ ((m : Int) :: JB ql) ++ [l0, l1, l2]).length := by have := HK.out; have := HLEN.out; omega
    exact retRow_eq HV.out (RetRow.mk (HR8.out.mono (Nat.le_of_lt w1)) (bthen f1 B8))
end Go.Proofs.Ytodkcanhlpgpgaa
