/- Messages: the law's own helpers on them (eq, mark, held), at most one message each. -/
import Derived.Test.YtbcpcddmekoaeaaSd2
import Derived.Test.YtbcpcddmekoaeaaSInt64
import Derived.Test.YtbcpcddmekoaeaaWr2
import Derived.LoopN
namespace Go.Proofs.Ytbcpcddmekoaeaa
set_option linter.unusedSimpArgs false
set_option linter.unusedVariables false
attribute [local go_sem] n_lt2 n_lt3 n_lt4 n_le2 n_le3
open Go.RowKit
attribute [local go_sem] Ext.cell Ext.frozen
/-- The numbers of the messages' fields. -/
def mzL (ms : List Mg) : Nat := (ms.map fun m => 2 + m.z.length).sum
theorem mzL_one (m : Mg) : mzL [m] = 2 + m.z.length := by simp [mzL]
theorem sendL_mz (i0 t0 : Int) (wl : List Wt) (gl : List Gt) : mzL (sendL i0 t0 wl gl) ≤ 1000 := by
  unfold sendL
  split
  · rw [mzL_one]
    unfold sendM
    split <;> simp
  · simp [mzL]
/-- What mark lays. -/
def mkM (k : Int) (ms : List Mg) : List Mg := ms.map fun m => ⟨k, k + 1, marks (k + 2) (m.z.length * 1)⟩
theorem Row.bel {w w' : World} {lo l : Nat} {e : TypeId} {s : Nat} {A : Option Addr} {n cap : Nat} {zs : List Int} (h : Row w lo e s A n cap zs) (hb : Below l w w') (hlt : LtB A l) : Row w' lo e s A n cap zs :=
  h.keep fun a ha => hb.block _ (hlt a ha)
theorem Sl.bel {w w' : World} {l s : Nat} {A : Option Addr} {n : Nat} {zs : List Int} (h : Sl w s A n zs) (hb : Below l w w') (hlt : 0 < n → LtB A l) : Sl w' s A n zs :=
  ⟨h.1, fun hn => by
    obtain ⟨b, off, rfl, hbl, hj⟩ := h.2 hn
    exact ⟨b, off, rfl, Nat.lt_of_lt_of_le hbl hb.size, fun j hjn => (hb.cell (p := ⟨b, off + j, none⟩) (show b < l from hlt hn ⟨b, off, none⟩ rfl)).trans (hj j hjn)⟩⟩
theorem Blk.bel {w w' : World} {g l : Nat} {e : TypeId} {cs : Array Value} (h : Blk w g e cs) (hb : Below l w w') (hl : g < l) : Blk w' g e cs := (hb.block g hl).trans h
theorem Msgs.bel {w w' : World} {lo hi l : Nat} {A : Option Addr} {ms : List Mg} (h : Msgs w lo hi A ms) (hb : Below l w w') (hl : hi ≤ l) : Msgs w' lo hi A ms := by
  refine ⟨Nat.le_trans h.1 hb.size, ?_⟩
  rcases h.2 with h | ⟨g, R, rc, m, h1, h2, h3, h3', h4, h5, h6⟩
  · exact .inl h
  · exact .inr ⟨g, R, rc, m, h1, h2, h3, h3', h4.bel hb (Nat.lt_of_lt_of_le h3' hl), h5.bel hb (fun a ha => Nat.lt_of_lt_of_le (h6 a ha).2 hl), h6⟩
theorem Msgs.wr2 {w w' : World} {lo hi : Nat} {A X Y : Option Addr} {ms : List Mg} (h : Msgs w lo hi A ms) (hw : Wr2 w w' X Y) (h1 : ∀ a, X = some a → hi ≤ a.block ∨ a.block < lo) (h2 : ∀ a, Y = some a → hi ≤ a.block ∨ a.block < lo) : Msgs w' lo hi A ms := by
  refine ⟨Nat.le_trans h.1 hw.size, ?_⟩
  rcases h.2 with h | ⟨g, R, rc, m, e1, e2, h3, h3', h4, h5, h6⟩
  · exact .inl h
  · refine .inr ⟨g, R, rc, m, e1, e2, h3, h3', h4.wr2 hw (fun a ha => ?_) (fun a ha => ?_), h5.wr2 hw (fun a b ha hb => ?_) (fun a b ha hb => ?_), h6⟩
    · have := h1 a ha; omega
    · have := h2 a ha; omega
    · have := h1 b hb; have h7 := h5.ge a ha; have h8 := (h6 a ha).2; omega
    · have := h2 b hb; have h7 := h5.ge a ha; have h8 := (h6 a ha).2; omega
set_option maxHeartbeats 1000000 in
theorem eqMsg_same (f t : Int) (R R2 : Option Addr) (n c c2 : Nat) (z : List Int) (w : World) (h : Sl w 1 R n z) (h2 : Sl w 1 R2 n z) (hn : n ≤ maxLen) :
    Calls Try.prog 84 #[.agg #[.int .i64 f, .int .i64 t, .slice R n c], .agg #[.int .i64 f, .int .i64 t, .slice R2 n c2]] w fun e w' => e = .returned (.bool true) ∧ Below w.heap.size w w' := by
  have H := Lib.hid h
  have H2 := Lib.hid h2
  have ez := eqL_self z
  clear h h2
  go_enter Try.func84, Try.ntmps84
  go_wp2_with fail
  refine calls_named ?_
  rintro v0 hv0
  have f0 : Below w.heap.size w v0 := by rw [hv0]; (repeat' (first | (with_reducible exact Below.refl _ _) | (with_reducible assumption) | (with_reducible refine Below.alloc ?_ ?_ _) | (with_reducible refine Below.drew ?_) | (with_reducible refine Below.setCell ?_ ?_ _) | (with_reducible refine bstep (by assumption) ?_ ?_) | (with_reducible exact Nat.le_refl _) | omega | (simp [*]; done) | (simp [*]; omega)))
  clear hv0
  have c1 := eqInt64S_any R R2 n n c c2 z z v0 (H.out.below f0) (H2.out.below f0) hn hn
  rw [ez] at c1
  refine c1.mono ?_
  rintro e v1 ⟨rfl, b1⟩
  go_wp2
  go_ret
  exact ⟨rfl, bthen f0 b1⟩
set_option maxRecDepth 100000 in
set_option maxHeartbeats 4000000 in
theorem eqMsgS_same (A A2 : Option Addr) (c c2 lo hi lo2 hi2 : Nat) (ms : List Mg) (w : World) (h : Msgs w lo hi A ms) (h2 : Msgs w lo2 hi2 A2 ms) (hz : mzL ms ≤ 1000) :
    Calls Try.prog 46 #[.slice A ms.length c, .slice A2 ms.length c2] w fun e w' => e = .returned (.bool true) ∧ Below w.heap.size w w' := by
  rcases h.2 with rfl | ⟨g, R, rc, m, rfl, rfl, h3, h3', h4, h5, h6⟩
  · simp only [List.length_nil]
    clear h h2 hz
    go_enter Try.func46, Try.ntmps46
    go_wp2
    refine wp_loop_rounds 1 ?_
    rw [rounds_succ]
    go_wp2
    go_ret
    exact ⟨rfl, Below.refl _ _⟩
  · obtain ⟨f, t, z⟩ := m
    rw [mzL_one] at hz
    rcases h2.2 with h7 | ⟨g2, R2, rc2, m2, h7, rfl, k3, k3', k4, k5, k6⟩
    · exact absurd h7 (by simp)
    · injection h7 with h8
      subst h8
      simp only at h4 h5 k4 k5 hz
      simp only [List.length_singleton]
      have hzl := Lib.hid (show z.length ≤ 1000 by omega)
      obtain ⟨n, hn⟩ : ∃ n, z.length = n := ⟨_, rfl⟩
      rw [hn] at h4 h5 k4 k5 hzl
      have H5 := Lib.hid h5.sl
      have K5 := Lib.hid k5.sl
      have lg := h4.lt
      have lg2 := k4.lt
      have a0 : w.cell? ⟨g, 0, none⟩ = some (.int .i64 f) := h4.cell 0
      have a1 : w.cell? ⟨g, 1, none⟩ = some (.int .i64 t) := h4.cell 1
      have a2 : w.cell? ⟨g, 2, none⟩ = some (.slice R n rc) := h4.cell 2
      have e0 : w.cell? ⟨g2, 0, none⟩ = some (.int .i64 f) := k4.cell 0
      have e1 : w.cell? ⟨g2, 1, none⟩ = some (.int .i64 t) := k4.cell 1
      have e2 : w.cell? ⟨g2, 2, none⟩ = some (.slice R2 n rc2) := k4.cell 2
      clear h h2 hz h3 h3' h4 h5 h6 k3 k3' k4 k5 k6 hn
      go_enter Try.func46, Try.ntmps46
      go_wp2
      refine wp_loop_rounds 2 ?_
      rw [rounds_succ]
      go_wp2
      have hb : Below w.heap.size w w := Below.refl _ _
      ((refine wp_region_ext (by kernel_rfl) (by kernel_rfl) ?_); (repeat (any_goals (first | go_big_quiet_step ((go_at_call 84; exact quiet_ext (eqMsg_same f t R R2 n rc rc2 z _ (H5.out.below (Ext.h _)) (K5.out.below (Ext.h _)) (by have := hzl.out; unfold maxLen; omega)))) | (refine wpQuiet_step (fun K hK => ?_); go_simp; split <;> (refine hK _ ?_; clear hK K)) | quiet_step ((go_at_call 84; exact quiet_ext (eqMsg_same f t R R2 n rc rc2 z _ (H5.out.below (Ext.h _)) (K5.out.below (Ext.h _)) (by have := hzl.out; unfold maxLen; omega))))))); (all_goals (refine wpQuiet_nil ?_; rintro _ ⟨z, rfl⟩; have hb' := z.h; generalize z.w = w1 at hb' ⊢; clear z; (first | (have hb2 := bstep hb' hb hb.size; clear hb' hcb hfb hz1 hz2 hz3 hz4 hb; have hb := hb2; clear hb2) | (have hb := hb'; clear hb')); obtain ⟨hcb, hfb, hz1, hz2, hz3, hz4⟩ := bcell hb; (try simp only [World.size_alloc, World.size_setCell, World.size_drew, Nat.lt_add_one_iff, Nat.add_assoc, Nat.reduceAdd] at hz1 hz2 hz3 hz4))))
      all_goals
        go_wp2
        rw [rounds_succ]
        go_wp2
        go_ret
        exact ⟨rfl, by assumption⟩
set_option maxRecDepth 100000 in
set_option maxHeartbeats 4000000 in
theorem markMsgS_any (A : Option Addr) (c lo hi : Nat) (ms : List Mg) (k0 : Int) (w : World) (h : Msgs w lo hi A ms) (hlo : lo ≤ w.heap.size) (hz : mzL ms ≤ 1000) (hk0 : 0 ≤ k0) (hk1 : k0 ≤ 1000) :
    Calls Try.prog 47 #[.slice A ms.length c, .int .i64 k0] w fun e w' => e = .returned (.int .i64 (k0 + (mzL ms : Nat))) ∧ Msgs w' lo hi A (mkM k0 ms) ∧ Below lo w w' := by
  rcases h.2 with rfl | ⟨g, R, rc, m, rfl, rfl, h3, h3', h4, h5, h6⟩
  · simp only [List.length_nil]
    go_enter Try.func47, Try.ntmps47
    go_wp2
    refine wp_loop_rounds 1 ?_
    rw [rounds_succ]
    go_wp2
    go_ret
    exact ⟨ret_int (by simp [mzL]), ⟨h.1, .inl rfl⟩, Below.refl _ _⟩
  · obtain ⟨f, t, z⟩ := m
    rw [mzL_one] at hz ⊢
    simp only at h4 h5 hz ⊢
    simp only [List.length_singleton]
    have hhi := Lib.hid h.1
    obtain ⟨n, hn⟩ : ∃ n, z.length = n := ⟨_, rfl⟩
    have hMK := Lib.hid (show mkM k0 [⟨f, t, z⟩] = [⟨k0, k0 + 1, marks (k0 + 2) (n * 1)⟩] by rw [← hn]; rfl)
    rw [hn] at h4 h5 hz ⊢
    have H5 := Lib.hid h5
    have H4 := Lib.hid h4
    have H6 := Lib.hid h6
    have H3 := Lib.hid (And.intro h3 h3')
    clear h h3 h3' h4 h5 h6 hn
    have lg := H4.out.lt
    have a0 : w.cell? ⟨g, 0, none⟩ = some (.int .i64 f) := H4.out.cell 0
    have a1 : w.cell? ⟨g, 1, none⟩ = some (.int .i64 t) := H4.out.cell 1
    have a2 : w.cell? ⟨g, 2, none⟩ = some (.slice R n rc) := H4.out.cell 2
    have z0 := H4.out.frozen 0
    have z1 := H4.out.frozen 1
    go_enter Try.func47, Try.ntmps47
    go_wp2
    refine wp_loop_rounds 2 ?_
    rw [rounds_succ]
    go_wp2_with fail
    refine calls_named ?_
    rintro v1 hv1
    have K1 : Hid (Blk v1 g 75 #[.int .i64 k0, .int .i64 (k0 + 1), .slice R n rc]) := by rw [hv1]; exact ((H4.out.set_ 0 _).set_ 1 _)
    have R1 : Hid (Row v1 lo 2 1 R n rc z) := by rw [hv1]; exact ((H5.out.far (p := ⟨g, 0, none⟩) (fun a ha => (H6.out a ha).1) _).far (p := ⟨g, 1, none⟩) (fun a ha => (H6.out a ha).1) _)
    have F1 : Hid (Below lo w v1) := by rw [hv1]; exact (((Below.refl lo w).setCell (p := ⟨g, 0, none⟩) H3.out.1 _).setCell (p := ⟨g, 1, none⟩) H3.out.1 _)
    have Z1 : Hid (hi ≤ v1.heap.size ∧ lo ≤ v1.heap.size) := by rw [hv1]; exact ⟨by simpa [size_set] using hhi.out, by simpa [size_set] using hlo⟩
    clear hv1 a0 a1 a2 z0 z1 lg
    have cm := markInt64S_any lo R n rc z (k0 + 1 + 1) v1 R1.out (by omega) (by omega) (by omega)
    refine cm.mono ?_
    rintro e v2 ⟨rfl, R2, W2⟩
    have F2 := Lib.hid (W2.below F1.out Z1.out.2 (fun x hx => R1.out.ge x hx))
    have K2 := Lib.hid (K1.out.wroteA W2 (fun a ha => (H6.out a ha).1))
    have Z2 := Lib.hid (Nat.le_trans Z1.out.1 W2.size)
    clear W2 cm
    go_wp2
    rw [rounds_succ]
    go_wp2
    go_ret
    refine ⟨ret_int (by omega), ⟨Z2.out, .inr ⟨g, R, rc, ⟨k0, k0 + 1, marks (k0 + 2) (n * 1)⟩, hMK.out, rfl, H3.out.1, H3.out.2, ?_, ?_, H6.out⟩⟩, F2.out⟩
    · rw [show (marks (k0 + 2) (n * 1)).length = n by rw [marks_length, Nat.mul_one]]
      exact K2.out
    · rw [show (marks (k0 + 2) (n * 1)).length = n by rw [marks_length, Nat.mul_one], show k0 + 2 = k0 + 1 + 1 by omega]
      exact R2
set_option maxRecDepth 100000 in
set_option maxHeartbeats 4000000 in
theorem heldMsgS_any (A : Option Addr) (c lo hi : Nat) (ms : List Mg) (k0 : Int) (w : World) (h : Msgs w lo hi A (mkM k0 ms)) (hz : mzL ms ≤ 1000) (hk0 : 0 ≤ k0) (hk1 : k0 ≤ 1000) :
    Calls Try.prog 48 #[.slice A ms.length c, .int .i64 k0] w fun e w' => e = .returned (.int .i64 (k0 + (mzL ms : Nat))) ∧ w = w' := by
  rcases h.2 with hM | ⟨g, R, rc, m, hM, rfl, h3, h3', h4, h5, h6⟩
  · obtain rfl : ms = [] := by
      unfold mkM at hM
      exact List.map_eq_nil_iff.1 hM
    simp only [List.length_nil]
    go_enter Try.func48, Try.ntmps48
    go_wp2
    refine wp_loop_rounds 1 ?_
    rw [rounds_succ]
    go_wp2
    go_ret
    exact ⟨ret_int (by simp [mzL]), rfl⟩
  · match ms, hM with
    | [⟨f, t, z⟩], hM =>
      unfold mkM at hM
      injection hM with hM
      subst hM
      rw [mzL_one] at hz ⊢
      simp only at h4 h5 hz ⊢
      simp only [List.length_singleton]
      obtain ⟨n, hn⟩ : ∃ n, z.length = n := ⟨_, rfl⟩
      rw [hn] at h4 h5 hz ⊢
      rw [show (marks (k0 + 2) (n * 1)).length = n by rw [marks_length, Nat.mul_one]] at h4 h5
      have H5 := Lib.hid h5.sl
      have lg := h4.lt
      have a0 : w.cell? ⟨g, 0, none⟩ = some (.int .i64 k0) := h4.cell 0
      have a1 : w.cell? ⟨g, 1, none⟩ = some (.int .i64 (k0 + 1)) := h4.cell 1
      have a2 : w.cell? ⟨g, 2, none⟩ = some (.slice R n rc) := h4.cell 2
      clear h h3 h3' h4 h5 h6 hn
      go_enter Try.func48, Try.ntmps48
      go_wp2
      refine wp_loop_rounds 2 ?_
      rw [rounds_succ]
      have ch := heldInt64S_any R n rc (k0 + 1 + 1) w (by rw [show k0 + 1 + 1 = k0 + 2 by omega]; exact H5.out) (by omega) (by omega) (by omega)
      go_wp2_with fail
      refine ch.mono ?_
      rintro e w' ⟨rfl, rfl⟩
      have hnn : ¬ k0 + 1 + 1 + ((n * 1 : Nat) : Int) < 0 := by omega
      go_wp2
      rw [rounds_succ]
      go_wp2
      go_ret
      exact ⟨ret_int (by omega), rfl⟩
end Go.Proofs.Ytbcpcddmekoaeaa
