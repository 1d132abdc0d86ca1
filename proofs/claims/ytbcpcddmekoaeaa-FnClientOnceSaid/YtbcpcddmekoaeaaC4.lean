/- Clients: AcksOf, the program's and the reference's. -/
import Derived.Test.YtbcpcddmekoaeaaC3
import Derived.Test.YtbcpcddmekoaeaaSAck
import Derived.Test.YtbcpcddmekoaeaaApp
import Derived.Deep.RegionHeldLaw
import Derived.Deep.AppendLies
namespace Go.Proofs.Ytbcpcddmekoaeaa
set_option linter.unusedSimpArgs false
set_option linter.unusedVariables false
attribute [local go_sem] n_lt2 n_lt3 n_lt4 n_le2 n_le3
open Go.RowKit
def ack1 (i0 : Int) (p : Wt) (q : Gt) : List Int := if p.k = 4 then [] else [i0, q.q, q.x, q.q]
def ackR (i0 : Int) (wl : List Wt) (gl : List Gt) (k : Nat) : List Int := (List.range k).flatMap fun j => ack1 i0 (wl.getD j default) (gl.getD j default)
def acksL (i0 : Int) (wl : List Wt) (gl : List Gt) (t0 : Int) : List Int := if clientB i0 wl gl t0 = true then ackR i0 wl gl gl.length else []
theorem ackR_succ (i0 : Int) (wl : List Wt) (gl : List Gt) (k : Nat) : ackR i0 wl gl (k + 1) = ackR i0 wl gl k ++ ack1 i0 (wl.getD k default) (gl.getD k default) := by
  unfold ackR; rw [List.range_succ, List.flatMap_append]; simp
theorem ackR_len (i0 : Int) (wl : List Wt) (gl : List Gt) (k : Nat) : (ackR i0 wl gl k).length ≤ 4 * k := by
  induction k with
  | zero => simp [ackR]
  | succ k ih =>
    rw [ackR_succ, List.length_append]
    have : (ack1 i0 (wl.getD k default) (gl.getD k default)).length ≤ 4 := by unfold ack1; split <;> simp
    omega
theorem acksL_len (i0 : Int) (wl : List Wt) (gl : List Gt) (t0 : Int) : (acksL i0 wl gl t0).length / 4 ≤ 12 := by
  unfold acksL
  split
  · rename_i h
    have h1 := clientB_le h
    have h2 := ackR_len i0 wl gl gl.length
    omega
  · simp
theorem retAck {w w' : World} {E n0 c0 : Nat} {A0 : Option Addr} {zs ys : List Int} (h : ys = zs) (R : Row w' w.heap.size E 4 A0 n0 c0 zs) (hb : Below w.heap.size w w') : RetRow w E 4 (ys.length / 4) ys (.returned (.slice A0 n0 c0)) w' := by
  subst h
  have := R.len
  rw [show ys.length / 4 = n0 by omega]
  exact RetRow.mk R hb
theorem row0q {w : World} {g lo : Nat} {E : TypeId} (h : Blk w g E #[]) (hlo : lo ≤ g) : Row w lo E 4 (some ⟨g, 0, none⟩) 0 0 [] :=
  h.row hlo (by simp [maxLen]) (by simp) (by simp) (fun j hj => absurd hj (by omega))
theorem cell_four_at (w : World) (x0 x1 x2 x3 : Value) (t : TypeId) (g : Nat) (hg : g = w.heap.size) : ∀ j u, [x0, x1, x2, x3][j]? = some u → (w.alloc (.cells #[x0, x1, x2, x3] t)).cell? ((⟨g, 0, none⟩ : Addr).add j) = some u := by
  intro j u hj
  subst hg
  match j, hj with
  | 0, hj => simp at hj; subst hj; simp [Addr.add]
  | 1, hj => simp at hj; subst hj; simp [Addr.add]
  | 2, hj => simp at hj; subst hj; simp [Addr.add]
  | 3, hj => simp at hj; subst hj; simp [Addr.add]
attribute [local go_sem] Ext.cell Ext.frozen
set_option maxRecDepth 100000 in
set_option maxHeartbeats 4000000 in
theorem specAcksOf_any (A : Option Addr) (n c : Nat) (B : Option Addr) (m d : Nat) (i0 t0 : Int) (wl : List Wt) (gl : List Gt) (w : World) (hP : Sl w 7 A n (WT wl)) (hQ : Sl w 4 B m (GT gl)) (hl : wl.length = n) (hr : gl.length = m) (hn : n ≤ maxLen) (hm : m ≤ maxLen) :
    Calls Try.prog 33 #[.agg #[.int .i64 i0, .slice A n c, .slice B m d, .int .i64 t0]] w (RetRow w 57 4 ((acksL i0 wl gl t0).length / 4) (acksL i0 wl gl t0)) := by
  have hL := Lib.hid hl
  have hR := Lib.hid hr
  have HP := Lib.hid hP
  have HQ := Lib.hid hQ
  clear hP hQ hl hr
  unfold maxLen at hn hm
  obtain ⟨v0, hv0⟩ : ∃ v : World, v = w.alloc (.cells #[.int .i64 i0, .slice A n c, .slice B m d, .int .i64 t0] 31) := ⟨_, rfl⟩
  have f0 : Below w.heap.size w v0 := by rw [hv0]; (repeat' (first | (with_reducible exact Below.refl _ _) | (with_reducible assumption) | (with_reducible refine Below.alloc ?_ ?_ _) | (with_reducible refine Below.drew ?_) | (with_reducible refine Below.setCell ?_ ?_ _) | (with_reducible refine bstep (by assumption) ?_ ?_) | (with_reducible exact Nat.le_refl _) | omega | (simp [*]; done) | (simp [*]; omega)))
  have z0 : w.heap.size + 1 = v0.heap.size := by rw [hv0]; simp
  have hw0 : w.heap.size < v0.heap.size := by omega
  have HB := Lib.hid (show Blk v0 w.heap.size 31 #[.int .i64 i0, .slice A n c, .slice B m d, .int .i64 t0] by rw [hv0]; exact Blk.new _ _ _)
  have HP0 := Lib.hid (HP.out.below f0)
  have HQ0 := Lib.hid (HQ.out.below f0)
  have HZ := Lib.hid z0
  have HV0 := Lib.hid hv0
  clear z0 hv0
  go_enter Try.func33, Try.ntmps33
  go_wp2_with fail
  refine calls_named ?_
  rintro v1 hv1
  rw [← HV0.out] at hv1
  have f1 : Below v0.heap.size v0 v1 := by rw [hv1]; (repeat' (first | (with_reducible exact Below.refl _ _) | (with_reducible assumption) | (with_reducible refine Below.alloc ?_ ?_ _) | (with_reducible refine Below.drew ?_) | (with_reducible refine Below.setCell ?_ ?_ _) | (with_reducible refine bstep (by assumption) ?_ ?_) | (with_reducible exact Nat.le_refl _) | omega | (simp [*]; done) | (simp [*]; omega)))
  have HR1 := Lib.hid (show Row v1 v0.heap.size 57 4 (some ⟨v0.heap.size, 0, none⟩) 0 0 [] by rw [hv1]; exact row0q (Blk.new _ _ _) (Nat.le_refl _))
  clear hv1 HV0
  rw [HZ.out]
  have c1 := specClientOk_any A n c B m d i0 t0 wl gl v1 (HP0.out.below f1) (HQ0.out.below f1) hL.out hR.out (by unfold maxLen; omega) (by unfold maxLen; omega)
  cases hq : clientB i0 wl gl t0 with
  | false =>
    rw [hq] at c1
    have HV := Lib.hid (show acksL i0 wl gl t0 = [] by unfold acksL; rw [hq]; rfl)
    clear hq
    refine c1.mono ?_
    rintro e v2 ⟨rfl, b2⟩
    go_wp21
    go_ret
    exact retAck HV.out ((HR1.out.below b2).mono (Nat.le_of_lt hw0)) (bthen (bthen f0 f1) b2)
  | true =>
    rw [hq] at c1
    have HV := Lib.hid (show acksL i0 wl gl t0 = ackR i0 wl gl gl.length by unfold acksL; rw [if_pos hq])
    have hle := clientB_le hq
    rw [hL.out, hR.out] at hle
    obtain ⟨hn12, hmn0⟩ := hle
    clear hq
    refine c1.mono ?_
    rintro e v2 ⟨rfl, b2⟩
    have HR2 := Lib.hid (HR1.out.below b2)
    have f2 := bthen f1 b2
    have hbl := f2
    clear HR1 c1 b2
    have lt_c : w.heap.size < v2.heap.size := Nat.lt_of_lt_of_le hw0 (Nat.le_trans (Nat.le_of_eq rfl) hbl.size)
    have r_c0 : v2.cell? ⟨w.heap.size, 0, none⟩ = some (.int .i64 i0) := (HB.out.below hbl).cell 0
    have r_c1 : v2.cell? ⟨w.heap.size, 1, none⟩ = some (.slice A n c) := (HB.out.below hbl).cell 1
    have r_c2 : v2.cell? ⟨w.heap.size, 2, none⟩ = some (.slice B m d) := (HB.out.below hbl).cell 2
    have r_c3 : v2.cell? ⟨w.heap.size, 3, none⟩ = some (.int .i64 t0) := (HB.out.below hbl).cell 3
    go_wp2
    clear lt_c r_c0 r_c1 r_c2 r_c3 hbl
    go_loopw [3, 4] (fun o iv wr => ∃ k A0 n0 c0 zs, k ≤ m ∧ n0 ≤ k ∧ iv = .int .i64 (k : Nat) ∧ o = .slice A0 n0 c0 ∧ Row wr v0.heap.size 57 4 A0 n0 c0 zs ∧ Hid (zs = ackR i0 wl gl k) ∧ Below v0.heap.size v0 wr) (fun _ iv _ => m - (intOf iv).toNat)
    case atStart => exact ⟨0, _, _, _, _, by omega, by omega, rfl, rfl, HR2.out, Lib.hid rfl, f2⟩
    case round =>
      obtain ⟨k, A0, n0, c0, zs, hk, hn0, rfl, rfl, R, hz, hbl⟩ := hrel
      have lt_c : w.heap.size < wr.heap.size := Nat.lt_of_lt_of_le hw0 (Nat.le_trans (Nat.le_of_eq rfl) hbl.size)
      have r_c0 : wr.cell? ⟨w.heap.size, 0, none⟩ = some (.int .i64 i0) := (HB.out.below hbl).cell 0
      have r_c1 : wr.cell? ⟨w.heap.size, 1, none⟩ = some (.slice A n c) := (HB.out.below hbl).cell 1
      have r_c2 : wr.cell? ⟨w.heap.size, 2, none⟩ = some (.slice B m d) := (HB.out.below hbl).cell 2
      have r_c3 : wr.cell? ⟨w.heap.size, 3, none⟩ = some (.int .i64 t0) := (HB.out.below hbl).cell 3
      by_cases hlt : k < m
      · have hlt' : (k : Int) < (m : Int) := by omega
        have hkn : k < n := by omega
        obtain ⟨bw, ow, hAw, hbw, hcw⟩ := sl_wants HP0.out (by omega)
        subst hAw
        obtain ⟨bg, og, hBg, hbg, hcg⟩ := sl_gots HQ0.out (by omega)
        subst hBg
        obtain ⟨h0, _, _, _, _, _, _⟩ := hcw k hkn
        obtain ⟨p0, p1, p2, p3⟩ := hcg k hlt
        clear hcw hcg
        rw [← hbl.cell (by exact hbw)] at h0
        rw [← hbl.cell (by exact hbg)] at p0 p1 p2 p3
        have HS := Lib.hid (ackR_succ i0 wl gl k)
        generalize hp : wl.getD k default = p at h0 HS
        generalize hq : gl.getD k default = q at p0 p1 p2 p3 HS
        obtain ⟨k1, o, a, b, c1, d1, y⟩ := p
        obtain ⟨q, x, h, vv⟩ := q
        simp only at h0 p0 p1 p2 p3
        clear hp hq
        have hbrw : bw < wr.heap.size := Nat.lt_of_lt_of_le hbw hbl.size
        have hbrg : bg < wr.heap.size := Nat.lt_of_lt_of_le hbg hbl.size
        by_cases h4 : k1 = 4
        · have hz2 := Lib.hid (show zs = ackR i0 wl gl (k + 1) by rw [HS.out, hz.out]; unfold ack1; rw [if_pos h4]; simp)
          subst h4
          clear hz HS
          go_wp2
          exact ⟨⟨k + 1, A0, n0, c0, zs, by omega, by omega, by go_num, rfl, R, hz2, hbl⟩, by simp [intOf]; omega⟩
        · have hz2 := Lib.hid (show zs ++ [i0, q, x, q] = ackR i0 wl gl (k + 1) by rw [HS.out, hz.out]; unfold ack1; rw [if_neg h4])
          have h4' : (k1 != 4) = true := by simpa using h4
          clear hz HS
          go_wp2
          have hS0 : ∀ w', Below wr.heap.size wr w' → w'.cell? ⟨w.heap.size, 0, none⟩ = some (.int .i64 i0) ∧ w'.cell? ⟨w.heap.size, 2, none⟩ = some (.slice (some ⟨bg, og, none⟩) m d) ∧ w'.cell? ⟨bg, og + k * 4, none⟩ = some (.int .i64 q) ∧ w'.cell? ⟨bg, og + k * 4 + 1, none⟩ = some (.int .i64 x) := fun w' hB => ⟨(hB.cell lt_c).trans r_c0, (hB.cell lt_c).trans r_c2, (hB.cell hbrg).trans p0, (hB.cell hbrg).trans p1⟩
          have HK := Lib.hid hS0
          have hnb : ∀ g, g < v0.heap.size → some g ≠ (Value.slice A0 n0 c0).ownBlock := fun g hg => by
            cases A0 with
            | none => simp [Value.ownBlock]
            | some a0 =>
              have := R.ge a0 rfl
              simp only [Value.ownBlock, ne_eq, Option.some.injEq]
              omega
          have HK5 := Lib.hid (show ∀ W w5, Below wr.heap.size wr W → W.grownBy w5 (Value.slice A0 n0 c0).ownBlock → w5.cell? ⟨w.heap.size, 0, none⟩ = some (.int .i64 i0) ∧ w5.cell? ⟨w.heap.size, 2, none⟩ = some (.slice (some ⟨bg, og, none⟩) m d) ∧ w5.cell? ⟨bg, og + k * 4, none⟩ = some (.int .i64 q) ∧ w5.cell? ⟨bg, og + k * 4 + 1, none⟩ = some (.int .i64 x) from fun W w5 hB hg =>
            ⟨(hg.cell_far ⟨w.heap.size, 0, none⟩ (Nat.lt_of_lt_of_le lt_c hB.size) (hnb _ hw0)).trans (hS0 W hB).1, (hg.cell_far ⟨w.heap.size, 2, none⟩ (Nat.lt_of_lt_of_le lt_c hB.size) (hnb _ hw0)).trans (hS0 W hB).2.1, (hg.cell_far ⟨bg, og + k * 4, none⟩ (Nat.lt_of_lt_of_le hbrg hB.size) (hnb _ hbg)).trans (hS0 W hB).2.2.1, (hg.cell_far ⟨bg, og + k * 4 + 1, none⟩ (Nat.lt_of_lt_of_le hbrg hB.size) (hnb _ hbg)).trans (hS0 W hB).2.2.2⟩)
          clear hS0 hnb
          obtain ⟨ia, hia, hza, hsa, hya⟩ := info_parts info_Ack
          go_region_held_law (fun w' => w'.cell? ⟨w.heap.size, 0, none⟩ = some (.int .i64 i0) ∧ w'.cell? ⟨w.heap.size, 2, none⟩ = some (.slice (some ⟨bg, og, none⟩) m d) ∧ w'.cell? ⟨bg, og + k * 4, none⟩ = some (.int .i64 q) ∧ w'.cell? ⟨bg, og + k * 4 + 1, none⟩ = some (.int .i64 x))
            (first | exact HK.out _ (Below.drew (Below.refl _ _)) | exact HK.out _ (Below.alloc (Below.drew (Below.refl _ _)) (Nat.le_refl _) _) | exact HK5.out _ _ (Below.alloc (Below.drew (Below.refl _ _)) (Nat.le_refl _) _) (by assumption) | assumption)
            (first | (refine step_append_lies _ rfl _ _ 44 rfl v0.heap.size 57 ia _ 4 32 Try.underlying44 hia hza hsa hya (by simp [Value.cells]) (by decide) (.slice A0 n0 c0) n0 (ints zs) rfl (World.ownsRow.alloc R _) ⟨_, 0, none⟩ 1 1 [.int .i64 i0, .int .i64 q, .int .i64 x, .int .i64 q] rfl rfl (cell_four_at _ _ _ _ _ _ _ rfl) (ints_oneCell .i64 [i0, q, x, q]) (by decide) (by unfold maxLen; omega) (by omega) (by have := hbl.size; simp; omega) _ rfl ?_; intro g c5 w5 hown hgrow hat hlt5))
          have R5 : Row w5 v0.heap.size 57 4 (some ⟨g, 0, none⟩) (n0 + 1) c5 (zs ++ [i0, q, x, q]) := by unfold Row; rw [ints_append]; exact hown
          have B5 : Below v0.heap.size v0 w5 := (hbl.drew.alloc hbl.size _).grown hgrow (by have := hbl.size; simp; omega) (fun z hz => by
            cases A0 with
            | none => simp [Value.ownBlock] at hz
            | some a0 =>
              simp only [Value.ownBlock, Option.some.injEq] at hz
              have := R.ge a0 rfl
              omega)
          clear hgrow hat hlt5 hown HK HK5
          go_wp2
          exact ⟨⟨k + 1, _, _, c5, _, by omega, by omega, by go_num, rfl, R5, hz2, B5⟩, by simp [intOf]; omega⟩
      · have hkn : k = m := by omega
        subst hkn
        have hlt' : ¬ (k : Int) < (k : Int) := by omega
        go_wp2
        go_ret
        exact retAck (HV.out.trans (by rw [hR.out]; exact hz.out.symm)) (R.mono (Nat.le_of_lt hw0)) (bthen f0 hbl)
set_option maxRecDepth 100000 in
set_option maxHeartbeats 4000000 in
theorem acksOf_any (A : Option Addr) (n c : Nat) (B : Option Addr) (m d : Nat) (i0 t0 : Int) (wl : List Wt) (gl : List Gt) (w : World) (hP : Sl w 7 A n (WT wl)) (hQ : Sl w 4 B m (GT gl)) (hl : wl.length = n) (hr : gl.length = m) (hn : n ≤ maxLen) (hm : m ≤ maxLen) :
    Calls Try.prog 34 #[.agg #[.int .i64 i0, .slice A n c, .slice B m d, .int .i64 t0]] w (RetRow w 57 4 ((acksL i0 wl gl t0).length / 4) (acksL i0 wl gl t0)) := by
  have hL := Lib.hid hl
  have hR := Lib.hid hr
  have HP := Lib.hid hP
  have HQ := Lib.hid hQ
  clear hP hQ hl hr
  go_enter Try.func34, Try.ntmps34
  go_wp2_with fail
  refine calls_named ?_
  rintro v0 hv0
  have f0' : Below w.heap.size w v0 := by rw [hv0]; (repeat' (first | (with_reducible exact Below.refl _ _) | (with_reducible assumption) | (with_reducible refine Below.alloc ?_ ?_ _) | (with_reducible refine Below.drew ?_) | (with_reducible refine Below.setCell ?_ ?_ _) | (with_reducible refine bstep (by assumption) ?_ ?_) | (with_reducible exact Nat.le_refl _) | omega | (simp [*]; done) | (simp [*]; omega)))
  have HK := Lib.hid (show Blk v0 w.heap.size 31 #[.int .i64 i0, .slice A n c, .slice B m d, .int .i64 t0] by rw [hv0]; exact Blk.new _ _ _)
  clear hv0
  have c1 := clientOk_any A n c B m d i0 t0 wl gl v0 (HP.out.below f0') (HQ.out.below f0') hL.out hR.out hn hm
  unfold maxLen at hn hm
  cases hq : clientB i0 wl gl t0 with
  | false =>
    rw [hq] at c1
    have HV := Lib.hid (show acksL i0 wl gl t0 = [] by unfold acksL; rw [hq]; rfl)
    clear hq
    refine c1.mono ?_
    rintro e v1 ⟨rfl, b1⟩
    go_wp21
    go_ret
    exact retAck HV.out (Row.nil _ _ _ _) (bthen f0' b1)
  | true =>
    rw [hq] at c1
    have HV := Lib.hid (show acksL i0 wl gl t0 = ackR i0 wl gl gl.length by unfold acksL; rw [if_pos hq])
    have hle := clientB_le hq
    rw [hL.out, hR.out] at hle
    obtain ⟨hn12, hmn0⟩ := hle
    clear hq
    refine c1.mono ?_
    rintro e v1 ⟨rfl, b1⟩
    have f0 := bthen f0' b1
    have HB := Lib.hid (HK.out.below b1)
    have HP0 := Lib.hid (HP.out.below f0)
    have HQ0 := Lib.hid (HQ.out.below f0)
    have hw0 : w.heap.size < v1.heap.size := HB.out.lt
    have hbl := Below.refl v1.heap.size v1
    clear HK c1 b1 f0'
    have lt_c : w.heap.size < v1.heap.size := Nat.lt_of_lt_of_le hw0 (Nat.le_trans (Nat.le_of_eq rfl) hbl.size)
    have r_c0 : v1.cell? ⟨w.heap.size, 0, none⟩ = some (.int .i64 i0) := (HB.out.below hbl).cell 0
    have r_c1 : v1.cell? ⟨w.heap.size, 1, none⟩ = some (.slice A n c) := (HB.out.below hbl).cell 1
    have r_c2 : v1.cell? ⟨w.heap.size, 2, none⟩ = some (.slice B m d) := (HB.out.below hbl).cell 2
    have r_c3 : v1.cell? ⟨w.heap.size, 3, none⟩ = some (.int .i64 t0) := (HB.out.below hbl).cell 3
    go_wp2
    clear lt_c r_c0 r_c1 r_c2 r_c3 hbl
    go_loopw [3, 13] (fun o iv wr => ∃ k A0 n0 c0 zs, k ≤ m ∧ n0 ≤ k ∧ iv = .int .i64 (k : Nat) ∧ o = .slice A0 n0 c0 ∧ Row wr v1.heap.size 57 4 A0 n0 c0 zs ∧ Hid (zs = ackR i0 wl gl k) ∧ Below v1.heap.size v1 wr) (fun _ iv _ => m - (intOf iv).toNat)
    case atStart => exact ⟨0, _, _, _, _, by omega, by omega, rfl, rfl, row0q (Blk.new v1 _ _) (Nat.le_refl _), Lib.hid rfl, (Below.refl _ _).alloc (Nat.le_refl _) _⟩
    case round =>
      obtain ⟨k, A0, n0, c0, zs, hk, hn0, rfl, rfl, R, hz, hbl⟩ := hrel
      have lt_c : w.heap.size < wr.heap.size := Nat.lt_of_lt_of_le hw0 (Nat.le_trans (Nat.le_of_eq rfl) hbl.size)
      have r_c0 : wr.cell? ⟨w.heap.size, 0, none⟩ = some (.int .i64 i0) := (HB.out.below hbl).cell 0
      have r_c1 : wr.cell? ⟨w.heap.size, 1, none⟩ = some (.slice A n c) := (HB.out.below hbl).cell 1
      have r_c2 : wr.cell? ⟨w.heap.size, 2, none⟩ = some (.slice B m d) := (HB.out.below hbl).cell 2
      have r_c3 : wr.cell? ⟨w.heap.size, 3, none⟩ = some (.int .i64 t0) := (HB.out.below hbl).cell 3
      by_cases hlt : k < m
      · have hlt' : (k : Int) < (m : Int) := by omega
        have hkn : k < n := by omega
        obtain ⟨bw, ow, hAw, hbw, hcw⟩ := sl_wants HP0.out (by omega)
        subst hAw
        obtain ⟨bg, og, hBg, hbg, hcg⟩ := sl_gots HQ0.out (by omega)
        subst hBg
        obtain ⟨h0, _, _, _, _, _, _⟩ := hcw k hkn
        obtain ⟨p0, p1, p2, p3⟩ := hcg k hlt
        clear hcw hcg
        rw [← hbl.cell (by exact hbw)] at h0
        rw [← hbl.cell (by exact hbg)] at p0 p1 p2 p3
        have HS := Lib.hid (ackR_succ i0 wl gl k)
        generalize hp : wl.getD k default = p at h0 HS
        generalize hq : gl.getD k default = q at p0 p1 p2 p3 HS
        obtain ⟨k1, o, a, b, c1, d1, y⟩ := p
        obtain ⟨q, x, h, vv⟩ := q
        simp only at h0 p0 p1 p2 p3
        clear hp hq
        have hbrw : bw < wr.heap.size := Nat.lt_of_lt_of_le hbw hbl.size
        have hbrg : bg < wr.heap.size := Nat.lt_of_lt_of_le hbg hbl.size
        by_cases h4 : k1 = 4
        · have hz2 := Lib.hid (show zs = ackR i0 wl gl (k + 1) by rw [HS.out, hz.out]; unfold ack1; rw [if_pos h4]; simp)
          subst h4
          clear hz HS
          go_wp2
          exact ⟨⟨k + 1, A0, n0, c0, zs, by omega, by omega, by go_num, rfl, (R.alloc _), hz2, (hbl.alloc hbl.size _)⟩, by simp [intOf]; omega⟩
        · have hz2 := Lib.hid (show zs ++ [i0, q, x, q] = ackR i0 wl gl (k + 1) by rw [HS.out, hz.out]; unfold ack1; rw [if_neg h4])
          have h4' : (k1 != 4) = true := by simpa using h4
          clear hz HS
          go_wp2_with (at_builtin; refine wpList_append_row rfl _ _ 44 rfl 57 (.agg #[.int .i64 0, .int .i64 0, .int .i64 0, .int .i64 0]) 4 32 Try.underlying44 info_Ack (by simp [Value.cells]) (by decide) v1.heap.size A0 n0 c0 zs rfl ((R.alloc _).alloc _) ⟨wr.heap.size + 1, 0, none⟩ 1 1 [i0, q, x, q] rfl rfl (cell_four_at _ _ _ _ _ _ _ (by simp)) (by unfold maxLen; omega) (by omega) (by have := hbl.size; simp; omega) ?_; intro A5 c5 w5 R5 B5)
          exact ⟨⟨k + 1, _, _, c5, _, by omega, by omega, by go_num, rfl, R5, hz2, ((hbl.alloc hbl.size _).alloc (by have := hbl.size; simp; omega) _).trans B5⟩, by simp [intOf]; omega⟩
      · have hkn : k = m := by omega
        subst hkn
        have hlt' : ¬ (k : Int) < (k : Int) := by omega
        go_wp2
        go_ret
        exact retAck (HV.out.trans (by rw [hR.out]; exact hz.out.symm)) (R.mono (Nat.le_of_lt hw0)) (bthen f0 hbl)
end Go.Proofs.Ytbcpcddmekoaeaa
