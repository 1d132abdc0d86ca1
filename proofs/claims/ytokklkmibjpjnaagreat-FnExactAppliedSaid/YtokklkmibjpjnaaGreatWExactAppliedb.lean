/- The walk of the law FnExactApplied. -/
import Derived.Test.YtokklkmibjpjnaaGreatBd9
import Derived.Deep.RegionHeldLaw
import Derived.Deep.DeepCutAuto
namespace Go.Proofs.YtokklkmibjpjnaaGreat
set_option linter.unusedSimpArgs false
set_option linter.unusedVariables false
attribute [local go_sem] n_lt2 n_lt3 n_lt4 n_le2 n_le3
open Go.RowKit
attribute [local go_sem] Ext.cell Ext.frozen

theorem ts_ad {v : World} {s n : Nat} {A : Option Addr} {zs : List Int} {x : Obj} (h : Sl v s A n zs) : Sl (v.drew.alloc x) s A n zs := (Sl.drew h).alloc x
theorem ts_da {v : World} {s n : Nat} {A : Option Addr} {zs : List Int} {x : Obj} (h : Sl v s A n zs) : Sl (v.alloc x).drew s A n zs := (h.alloc x).drew
theorem retV_eq {f : FuncId} {args : Array Value} {w : World} {i0 t0 l0 l1 l2 : Int} {n m : Nat} {zp zq yp yq : List Int} {b : Bool} (h1 : zp = yp) (h2 : zq = yq) (h : Calls Tryz.prog f args w (RetStateV w i0 t0 l0 l1 l2 n zp m zq (.bool b))) :
    Calls Tryz.prog f args w (fun e w' => ∃ A c B d, e = .returned (.tuple #[.agg #[.int .i64 i0, .int .i64 t0, .slice A n c, .slice B m d, .int .i64 l0, .int .i64 l1, .int .i64 l2], .bool b]) ∧ Row w' w.heap.size 106 2 A n c yp ∧ Row w' w.heap.size 71 5 B m d yq ∧ (∀ a b, A = some a → B = some b → a.block ≠ b.block) ∧ Below w.heap.size w w') := by
  subst h1 h2
  exact h
theorem appR_len (i0 t0 l0 l1 l2 : Int) (pl : List Pr) (ql : List Jb) (ex et ec es ek ea eb eg eh : Int) : (appR i0 t0 l0 l1 l2 pl ql ex et ec es ek ea eb eg eh).1.2.2.p.length ≤ 1000 ∧ (appR i0 t0 l0 l1 l2 pl ql ex et ec es ek ea eb eg eh).1.2.2.q.length ≤ 1000 := by
  unfold appR
  split
  · rename_i hs
    have hle := stateB_lens hs
    have hE := effE_len (l0 := l0) (l1 := l1) (l2 := l2) (pl := pl) (ql := ql) (ex := ex) (et := et) (ec := ec) (es := es) (ek := ek) (ea := ea) (eb := eb) (eg := eg) (eh := eh) (by omega) (by omega)
    split
    · unfold appE
      split
      · exact hE
      · simp only; omega
    · simp only; omega
  · simp
theorem appIs_ex {i0 t0 l0 l1 l2 : Int} {pl : List Pr} {ql : List Jb} {ex et ec es ek ea eb eg eh : Int} : ∃ ri rt rh re ru rp rq rn rm rb, AppIs i0 t0 l0 l1 l2 pl ql ex et ec es ek ea eb eg eh ri rt rh re ru rp rq rn rm rb ∧ rn ≤ 1000 ∧ rm ≤ 1000 := by
  have h := appR_len i0 t0 l0 l1 l2 pl ql ex et ec es ek ea eb eg eh
  unfold AppIs
  generalize appR i0 t0 l0 l1 l2 pl ql ex et ec es ek ea eb eg eh = r at h ⊢
  obtain ⟨⟨a, b, p, q, c, d, e⟩, f⟩ := r
  exact ⟨a, b, c, d, e, p, q, _, _, f, ⟨rfl, rfl, rfl⟩, h⟩
set_option maxRecDepth 100000 in
set_option maxHeartbeats 16000000 in
theorem law_ExactApplied (U0 : Option Addr) (n0 c0 : Nat) (V0 : Option Addr) (m0 d0 : Nat) (i0x0 t0x0 l0x0 l1x0 l2x0 : Int) (zp0 zq0 : List Int) (ex et ec es ek ea eb eg eh : Int) (w : World) (hP0 : Sl w 2 U0 n0 zp0) (hn0 : n0 ≤ c0) (hc0 : c0 ≤ maxLen) (hQ0 : Sl w 5 V0 m0 zq0) (hm0 : m0 ≤ d0) (hd0 : d0 ≤ maxLen) :
    Calls Tryz.prog 3 #[.agg #[.int .i64 i0x0, .int .i64 t0x0, .slice U0 n0 c0, .slice V0 m0 d0, .int .i64 l0x0, .int .i64 l1x0, .int .i64 l2x0], .agg #[.int .i64 ex, .int .i64 et, .int .i64 ec, .int .i64 es, .int .i64 ek, .int .i64 ea, .int .i64 eb, .int .i64 eg, .int .i64 eh]] w fun e' w' => e' = .returned (.bool true) ∧ Below w.heap.size w w' := by
  have hnm0 : n0 ≤ maxLen := Nat.le_trans hn0 hc0
  have hmm0 : m0 ≤ maxLen := Nat.le_trans hm0 hd0
  obtain ⟨pl0, hpl0, rfl⟩ := PR_of n0 zp0 hP0.len
  obtain ⟨ql0, hql0, rfl⟩ := JB_of m0 zq0 hQ0.len
  have p0_0 := hP0
  have q0_0 := hQ0
  clear hP0 hQ0
  by_cases hz0x0 : n0 ≤ 1048576
  rotate_left
  · have hh : 1048576 < n0 := by omega
    clear hz0x0
    go_enter Tryz.func3, Tryz.ntmps3
    go_wp2_with fail
    obtain ⟨W0, hW0⟩ : ∃ W0 : World, W0 = ((w.alloc (.cells #[.int .i64 i0x0, .int .i64 t0x0, .slice U0 n0 c0, .slice V0 m0 d0, .int .i64 l0x0, .int .i64 l1x0, .int .i64 l2x0] 27)).alloc (.cells #[.int .i64 ex, .int .i64 et, .int .i64 ec, .int .i64 es, .int .i64 ek, .int .i64 ea, .int .i64 eb, .int .i64 eg, .int .i64 eh] 31)) := ⟨_, rfl⟩
    rw [← hW0]
    have B0 : Below w.heap.size w W0 := by rw [hW0]; (repeat' (first | (with_reducible exact Below.refl _ _) | (with_reducible assumption) | (with_reducible refine Below.alloc ?_ ?_ _) | (with_reducible refine Below.drew ?_) | (with_reducible refine Below.setCell ?_ ?_ _) | (with_reducible refine bstep (by assumption) ?_ ?_) | (with_reducible exact Nat.le_refl _) | omega | (simp [*]; done) | (simp [*]; omega)))
    have s0x0 : w.heap.size < W0.heap.size := by rw [hW0]; first | (simp; done) | (simp; omega)
    have k0x0 : W0.cell? ⟨w.heap.size, 0, none⟩ = some (.int .i64 i0x0) := by rw [hW0]; simp [go_sem]
    have k0x1 : W0.cell? ⟨w.heap.size, 1, none⟩ = some (.int .i64 t0x0) := by rw [hW0]; simp [go_sem]
    have k0x2 : W0.cell? ⟨w.heap.size, 2, none⟩ = some (.slice U0 n0 c0) := by rw [hW0]; simp [go_sem]
    have k0x3 : W0.cell? ⟨w.heap.size, 3, none⟩ = some (.slice V0 m0 d0) := by rw [hW0]; simp [go_sem]
    have k0x4 : W0.cell? ⟨w.heap.size, 4, none⟩ = some (.int .i64 l0x0) := by rw [hW0]; simp [go_sem]
    have k0x5 : W0.cell? ⟨w.heap.size, 5, none⟩ = some (.int .i64 l1x0) := by rw [hW0]; simp [go_sem]
    have k0x6 : W0.cell? ⟨w.heap.size, 6, none⟩ = some (.int .i64 l2x0) := by rw [hW0]; simp [go_sem]
    have s0x1 : w.heap.size + 1 < W0.heap.size := by rw [hW0]; first | (simp; done) | (simp; omega)
    have k1x0 : W0.cell? ⟨w.heap.size + 1, 0, none⟩ = some (.int .i64 ex) := by rw [hW0]; simp [go_sem]
    have k1x1 : W0.cell? ⟨w.heap.size + 1, 1, none⟩ = some (.int .i64 et) := by rw [hW0]; simp [go_sem]
    have k1x2 : W0.cell? ⟨w.heap.size + 1, 2, none⟩ = some (.int .i64 ec) := by rw [hW0]; simp [go_sem]
    have k1x3 : W0.cell? ⟨w.heap.size + 1, 3, none⟩ = some (.int .i64 es) := by rw [hW0]; simp [go_sem]
    have k1x4 : W0.cell? ⟨w.heap.size + 1, 4, none⟩ = some (.int .i64 ek) := by rw [hW0]; simp [go_sem]
    have k1x5 : W0.cell? ⟨w.heap.size + 1, 5, none⟩ = some (.int .i64 ea) := by rw [hW0]; simp [go_sem]
    have k1x6 : W0.cell? ⟨w.heap.size + 1, 6, none⟩ = some (.int .i64 eb) := by rw [hW0]; simp [go_sem]
    have k1x7 : W0.cell? ⟨w.heap.size + 1, 7, none⟩ = some (.int .i64 eg) := by rw [hW0]; simp [go_sem]
    have k1x8 : W0.cell? ⟨w.heap.size + 1, 8, none⟩ = some (.int .i64 eh) := by rw [hW0]; simp [go_sem]
    replace p0_0 := p0_0.below B0
    replace q0_0 := q0_0.below B0
    clear hW0
    refine (szState_no1 U0 n0 c0 V0 m0 d0 i0x0 t0x0 l0x0 l1x0 l2x0 (1048576) _ (by omega) (by omega) (by omega) hnm0).mono ?_
    rintro e w1 ⟨rfl, b1⟩
    have p0_1 := p0_0.below b1
    clear p0_0
    have q0_1 := q0_0.below b1
    clear q0_0
    have F_1 := b1
    obtain ⟨hcb, hfb, _⟩ := bcell F_1
    go_wp2
    go_ret
    exact ⟨rfl, bstep F_1 B0 B0.size⟩
  by_cases hz0x1 : n0 + m0 ≤ 1048576
  rotate_left
  · have hh : 1048576 < n0 + m0 := by omega
    clear hz0x1
    go_enter Tryz.func3, Tryz.ntmps3
    go_wp2_with fail
    obtain ⟨W0, hW0⟩ : ∃ W0 : World, W0 = ((w.alloc (.cells #[.int .i64 i0x0, .int .i64 t0x0, .slice U0 n0 c0, .slice V0 m0 d0, .int .i64 l0x0, .int .i64 l1x0, .int .i64 l2x0] 27)).alloc (.cells #[.int .i64 ex, .int .i64 et, .int .i64 ec, .int .i64 es, .int .i64 ek, .int .i64 ea, .int .i64 eb, .int .i64 eg, .int .i64 eh] 31)) := ⟨_, rfl⟩
    rw [← hW0]
    have B0 : Below w.heap.size w W0 := by rw [hW0]; (repeat' (first | (with_reducible exact Below.refl _ _) | (with_reducible assumption) | (with_reducible refine Below.alloc ?_ ?_ _) | (with_reducible refine Below.drew ?_) | (with_reducible refine Below.setCell ?_ ?_ _) | (with_reducible refine bstep (by assumption) ?_ ?_) | (with_reducible exact Nat.le_refl _) | omega | (simp [*]; done) | (simp [*]; omega)))
    have s0x0 : w.heap.size < W0.heap.size := by rw [hW0]; first | (simp; done) | (simp; omega)
    have k0x0 : W0.cell? ⟨w.heap.size, 0, none⟩ = some (.int .i64 i0x0) := by rw [hW0]; simp [go_sem]
    have k0x1 : W0.cell? ⟨w.heap.size, 1, none⟩ = some (.int .i64 t0x0) := by rw [hW0]; simp [go_sem]
    have k0x2 : W0.cell? ⟨w.heap.size, 2, none⟩ = some (.slice U0 n0 c0) := by rw [hW0]; simp [go_sem]
    have k0x3 : W0.cell? ⟨w.heap.size, 3, none⟩ = some (.slice V0 m0 d0) := by rw [hW0]; simp [go_sem]
    have k0x4 : W0.cell? ⟨w.heap.size, 4, none⟩ = some (.int .i64 l0x0) := by rw [hW0]; simp [go_sem]
    have k0x5 : W0.cell? ⟨w.heap.size, 5, none⟩ = some (.int .i64 l1x0) := by rw [hW0]; simp [go_sem]
    have k0x6 : W0.cell? ⟨w.heap.size, 6, none⟩ = some (.int .i64 l2x0) := by rw [hW0]; simp [go_sem]
    have s0x1 : w.heap.size + 1 < W0.heap.size := by rw [hW0]; first | (simp; done) | (simp; omega)
    have k1x0 : W0.cell? ⟨w.heap.size + 1, 0, none⟩ = some (.int .i64 ex) := by rw [hW0]; simp [go_sem]
    have k1x1 : W0.cell? ⟨w.heap.size + 1, 1, none⟩ = some (.int .i64 et) := by rw [hW0]; simp [go_sem]
    have k1x2 : W0.cell? ⟨w.heap.size + 1, 2, none⟩ = some (.int .i64 ec) := by rw [hW0]; simp [go_sem]
    have k1x3 : W0.cell? ⟨w.heap.size + 1, 3, none⟩ = some (.int .i64 es) := by rw [hW0]; simp [go_sem]
    have k1x4 : W0.cell? ⟨w.heap.size + 1, 4, none⟩ = some (.int .i64 ek) := by rw [hW0]; simp [go_sem]
    have k1x5 : W0.cell? ⟨w.heap.size + 1, 5, none⟩ = some (.int .i64 ea) := by rw [hW0]; simp [go_sem]
    have k1x6 : W0.cell? ⟨w.heap.size + 1, 6, none⟩ = some (.int .i64 eb) := by rw [hW0]; simp [go_sem]
    have k1x7 : W0.cell? ⟨w.heap.size + 1, 7, none⟩ = some (.int .i64 eg) := by rw [hW0]; simp [go_sem]
    have k1x8 : W0.cell? ⟨w.heap.size + 1, 8, none⟩ = some (.int .i64 eh) := by rw [hW0]; simp [go_sem]
    replace p0_0 := p0_0.below B0
    replace q0_0 := q0_0.below B0
    clear hW0
    refine (szState_no2 U0 n0 c0 V0 m0 d0 i0x0 t0x0 l0x0 l1x0 l2x0 (1048576) _ (by omega) (by omega) (by omega) hmm0).mono ?_
    rintro e w1 ⟨rfl, b1⟩
    have p0_1 := p0_0.below b1
    clear p0_0
    have q0_1 := q0_0.below b1
    clear q0_0
    have F_1 := b1
    obtain ⟨hcb, hfb, _⟩ := bcell F_1
    go_wp2
    go_ret
    exact ⟨rfl, bstep F_1 B0 B0.size⟩
  go_enter Tryz.func3, Tryz.ntmps3
  go_wp2_with fail
  obtain ⟨W0, hW0⟩ : ∃ W0 : World, W0 = ((w.alloc (.cells #[.int .i64 i0x0, .int .i64 t0x0, .slice U0 n0 c0, .slice V0 m0 d0, .int .i64 l0x0, .int .i64 l1x0, .int .i64 l2x0] 27)).alloc (.cells #[.int .i64 ex, .int .i64 et, .int .i64 ec, .int .i64 es, .int .i64 ek, .int .i64 ea, .int .i64 eb, .int .i64 eg, .int .i64 eh] 31)) := ⟨_, rfl⟩
  rw [← hW0]
  have B0 : Below w.heap.size w W0 := by rw [hW0]; (repeat' (first | (with_reducible exact Below.refl _ _) | (with_reducible assumption) | (with_reducible refine Below.alloc ?_ ?_ _) | (with_reducible refine Below.drew ?_) | (with_reducible refine Below.setCell ?_ ?_ _) | (with_reducible refine bstep (by assumption) ?_ ?_) | (with_reducible exact Nat.le_refl _) | omega | (simp [*]; done) | (simp [*]; omega)))
  have s0x0 : w.heap.size < W0.heap.size := by rw [hW0]; first | (simp; done) | (simp; omega)
  have k0x0 : W0.cell? ⟨w.heap.size, 0, none⟩ = some (.int .i64 i0x0) := by rw [hW0]; simp [go_sem]
  have k0x1 : W0.cell? ⟨w.heap.size, 1, none⟩ = some (.int .i64 t0x0) := by rw [hW0]; simp [go_sem]
  have k0x2 : W0.cell? ⟨w.heap.size, 2, none⟩ = some (.slice U0 n0 c0) := by rw [hW0]; simp [go_sem]
  have k0x3 : W0.cell? ⟨w.heap.size, 3, none⟩ = some (.slice V0 m0 d0) := by rw [hW0]; simp [go_sem]
  have k0x4 : W0.cell? ⟨w.heap.size, 4, none⟩ = some (.int .i64 l0x0) := by rw [hW0]; simp [go_sem]
  have k0x5 : W0.cell? ⟨w.heap.size, 5, none⟩ = some (.int .i64 l1x0) := by rw [hW0]; simp [go_sem]
  have k0x6 : W0.cell? ⟨w.heap.size, 6, none⟩ = some (.int .i64 l2x0) := by rw [hW0]; simp [go_sem]
  have s0x1 : w.heap.size + 1 < W0.heap.size := by rw [hW0]; first | (simp; done) | (simp; omega)
  have k1x0 : W0.cell? ⟨w.heap.size + 1, 0, none⟩ = some (.int .i64 ex) := by rw [hW0]; simp [go_sem]
  have k1x1 : W0.cell? ⟨w.heap.size + 1, 1, none⟩ = some (.int .i64 et) := by rw [hW0]; simp [go_sem]
  have k1x2 : W0.cell? ⟨w.heap.size + 1, 2, none⟩ = some (.int .i64 ec) := by rw [hW0]; simp [go_sem]
  have k1x3 : W0.cell? ⟨w.heap.size + 1, 3, none⟩ = some (.int .i64 es) := by rw [hW0]; simp [go_sem]
  have k1x4 : W0.cell? ⟨w.heap.size + 1, 4, none⟩ = some (.int .i64 ek) := by rw [hW0]; simp [go_sem]
  have k1x5 : W0.cell? ⟨w.heap.size + 1, 5, none⟩ = some (.int .i64 ea) := by rw [hW0]; simp [go_sem]
  have k1x6 : W0.cell? ⟨w.heap.size + 1, 6, none⟩ = some (.int .i64 eb) := by rw [hW0]; simp [go_sem]
  have k1x7 : W0.cell? ⟨w.heap.size + 1, 7, none⟩ = some (.int .i64 eg) := by rw [hW0]; simp [go_sem]
  have k1x8 : W0.cell? ⟨w.heap.size + 1, 8, none⟩ = some (.int .i64 eh) := by rw [hW0]; simp [go_sem]
  replace p0_0 := p0_0.below B0
  replace q0_0 := q0_0.below B0
  clear hW0
  refine (szState_yes U0 n0 c0 V0 m0 d0 i0x0 t0x0 l0x0 l1x0 l2x0 (1048576) _ (by omega) (by omega)).mono ?_
  rintro e w1 ⟨rfl, b1⟩
  have p0_1 := p0_0.below b1
  clear p0_0
  have q0_1 := q0_0.below b1
  clear q0_0
  have F_1 := b1
  obtain ⟨hcb, hfb, _⟩ := bcell F_1
  have lf0 : ¬ ((1048576 : Int) - (n0 : Int) - m0 < 0) := by omega
  obtain ⟨ri, rt, rh, re, ru, rp, rq, rn, rm, rb, hv, hrn, hrm⟩ := appIs_ex (i0 := i0x0) (t0 := t0x0) (l0 := l0x0) (l1 := l1x0) (l2 := l2x0) (pl := pl0) (ql := ql0) (ex := ex) (et := et) (ec := ec) (es := es) (ek := ek) (ea := ea) (eb := eb) (eg := eg) (eh := eh)
  have HV := Lib.hid hv
  clear hv
  have hrn2 : rn ≤ 1048576 := by omega
  have hrm2 : rm ≤ 1048576 := by omega
  have hrnm : rn ≤ maxLen := by unfold maxLen; omega
  have hrmm : rm ≤ maxLen := by unfold maxLen; omega
  have hnz0 : n0 ≤ 1048576 := by omega
  have hmz0 : m0 ≤ 1048576 := by omega
  obtain ⟨rz, hrz⟩ : ∃ x, PR rp = x := ⟨_, rfl⟩
  obtain ⟨ry, hry⟩ : ∃ x, JB rq = x := ⟨_, rfl⟩
  have HZ := Lib.hid (And.intro hrz hry)
  clear hrz hry
  have lp0 : w.heap.size < w1.heap.size := Nat.lt_of_lt_of_le s0x0 F_1.size
  have lp1 : w.heap.size + 1 < w1.heap.size := Nat.lt_of_lt_of_le s0x1 F_1.size
  go_upto_region 5 with fail
  go_cut [6, 7] (fun sx bx wx => ∃ g A c B d, sx = .pointer (some ⟨g, 0, none⟩) ∧ bx = .bool rb ∧ w1.heap.size ≤ g ∧ (∀ a, A = some a → a.block ≠ g) ∧ (∀ a, B = some a → a.block ≠ g) ∧ Blk wx g 37 #[.int .i64 ri, .int .i64 rt, .slice A rn c, .slice B rm d, .int .i64 rh, .int .i64 re, .int .i64 ru] ∧ Row wx w1.heap.size 106 2 A rn c rz ∧ Row wx w1.heap.size 71 5 B rm d ry ∧ (∀ a b, A = some a → B = some b → a.block ≠ b.block) ∧ Below w1.heap.size w1 wx)
  case first =>
    have hS0_1 : ∀ b o, b < w1.heap.size → w1.cell? ⟨b, o, none⟩ = w1.cell? ⟨b, o, none⟩ := fun b o hb => rfl
    go_region_held_law (fun w' => ∀ b o, b < w1.heap.size → w'.cell? ⟨b, o, none⟩ = w1.cell? ⟨b, o, none⟩) (repeat' (first | with_reducible assumption | with_reducible exact Nat.le_refl _ | with_reducible exact hS0_1 | with_reducible refine hl_drew ?_ | with_reducible refine hl_alloc ?_ ?_ _ | with_reducible refine hl_set7 ?_ ?_ _ _ _ _ _ _ _)) (first | (go_at_call 8; refine (toState_any U0 n0 c0 V0 m0 d0 i0x0 t0x0 l0x0 l1x0 l2x0 _ _ _ (by first | with_reducible exact p0_1 | with_reducible exact Sl.drew p0_1 | with_reducible exact Sl.alloc p0_1 _ | with_reducible exact ts_da p0_1 | with_reducible exact ts_ad p0_1) (by first | with_reducible exact q0_1 | with_reducible exact Sl.drew q0_1 | with_reducible exact Sl.alloc q0_1 _ | with_reducible exact ts_da q0_1 | with_reducible exact ts_ad q0_1) (by omega) (by omega)).mono ?_; rintro e w2 ⟨A_t, c_t, B_t, d_t, rfl, R_tp, R_tq, HAP_t, b2⟩; (first | (have KB : Blk w2 w1.heap.size 37 #[.int .i64 0, .int .i64 0, .slice none 0 0, .slice none 0 0, .int .i64 0, .int .i64 0, .int .i64 0] := by with_reducible exact t_below2 b2 (Blk.new_at _ _ _ _ rfl)) | (have KB : Blk w2 w1.heap.size 37 #[.int .i64 0, .int .i64 0, .slice none 0 0, .slice none 0 0, .int .i64 0, .int .i64 0, .int .i64 0] := by with_reducible exact t_below2 b2 (Blk.drew (Blk.new_at _ _ _ _ rfl))) | (have KB : Blk w2 w1.heap.size 37 #[.int .i64 0, .int .i64 0, .slice none 0 0, .slice none 0 0, .int .i64 0, .int .i64 0, .int .i64 0] := by with_reducible exact t_below2 b2 (Blk.new_at _ _ _ _ (t_drew_size _))) | (replace KB := t_below2 b2 KB) | (replace KB := t_below2 b2 (Blk.drew KB)) | skip); have E2 : Below w1.heap.size w1 w2 := (by first | with_reducible exact b2 | with_reducible exact tb_dr b2 | with_reducible exact tb_al b2 | with_reducible exact tb_da b2 | with_reducible exact tb_ad b2); have H2 : Below w1.heap.size w1 w2 := E2; have z2 := H2.size; have hS2 : ∀ b o, b < w1.heap.size → w2.cell? ⟨b, o, none⟩ = w1.cell? ⟨b, o, none⟩ := fun b o hb => H2.cell (p := ⟨b, o, none⟩) hb) | (go_at_call 9; refine (toEntry_any ex et ec es ek ea eb eg eh _).mono ?_; rintro e w3 ⟨rfl, b3⟩; (first | (have KB : Blk w3 w2.heap.size 37 #[.int .i64 0, .int .i64 0, .slice none 0 0, .slice none 0 0, .int .i64 0, .int .i64 0, .int .i64 0] := by with_reducible exact t_below2 b3 (Blk.new_at _ _ _ _ rfl)) | (have KB : Blk w3 w2.heap.size 37 #[.int .i64 0, .int .i64 0, .slice none 0 0, .slice none 0 0, .int .i64 0, .int .i64 0, .int .i64 0] := by with_reducible exact t_below2 b3 (Blk.drew (Blk.new_at _ _ _ _ rfl))) | (have KB : Blk w3 w2.heap.size 37 #[.int .i64 0, .int .i64 0, .slice none 0 0, .slice none 0 0, .int .i64 0, .int .i64 0, .int .i64 0] := by with_reducible exact t_below2 b3 (Blk.new_at _ _ _ _ (t_drew_size _))) | (replace KB := t_below2 b3 KB) | (replace KB := t_below2 b3 (Blk.drew KB)) | skip); have E3 : Below w2.heap.size w2 w3 := (by first | with_reducible exact b3 | with_reducible exact tb_dr b3 | with_reducible exact tb_al b3 | with_reducible exact tb_da b3 | with_reducible exact tb_ad b3); have H3 : Below w1.heap.size w1 w3 := bthen H2 E3; have z3 := H3.size; have hS3 : ∀ b o, b < w1.heap.size → w3.cell? ⟨b, o, none⟩ = w1.cell? ⟨b, o, none⟩ := fun b o hb => H3.cell (p := ⟨b, o, none⟩) hb) | (go_at_call 7; refine ((retV_eq HZ.out.1 HZ.out.2 (specApplied_g A_t n0 c_t B_t m0 d_t i0x0 t0x0 l0x0 l1x0 l2x0 pl0 ql0 ex et ec es ek ea eb eg eh _ (by first | with_reducible exact (R_tp.below E3).sl | with_reducible exact Sl.drew (R_tp.below E3).sl | with_reducible exact Sl.alloc (R_tp.below E3).sl _ | with_reducible exact ts_da (R_tp.below E3).sl | with_reducible exact ts_ad (R_tp.below E3).sl) (by first | with_reducible exact (R_tq.below E3).sl | with_reducible exact Sl.drew (R_tq.below E3).sl | with_reducible exact Sl.alloc (R_tq.below E3).sl _ | with_reducible exact ts_da (R_tq.below E3).sl | with_reducible exact ts_ad (R_tq.below E3).sl) hpl0 hql0 hnm0 hmm0 (row_nil R_tp) (row_nil R_tq) ri rt rh re ru rp rq rn rm rb HV.out))).mono ?_; rintro e w4 ⟨A_r, c_r, B_r, d_r, rfl, R_rp, R_rq, HAP_r, b4⟩; (first | (have KB : Blk w4 w3.heap.size 37 #[.int .i64 0, .int .i64 0, .slice none 0 0, .slice none 0 0, .int .i64 0, .int .i64 0, .int .i64 0] := by with_reducible exact t_below2 b4 (Blk.new_at _ _ _ _ rfl)) | (have KB : Blk w4 w3.heap.size 37 #[.int .i64 0, .int .i64 0, .slice none 0 0, .slice none 0 0, .int .i64 0, .int .i64 0, .int .i64 0] := by with_reducible exact t_below2 b4 (Blk.drew (Blk.new_at _ _ _ _ rfl))) | (have KB : Blk w4 w3.heap.size 37 #[.int .i64 0, .int .i64 0, .slice none 0 0, .slice none 0 0, .int .i64 0, .int .i64 0, .int .i64 0] := by with_reducible exact t_below2 b4 (Blk.new_at _ _ _ _ (t_drew_size _))) | (replace KB := t_below2 b4 KB) | (replace KB := t_below2 b4 (Blk.drew KB)) | skip); have E4 : Below w3.heap.size w3 w4 := (by first | with_reducible exact b4 | with_reducible exact tb_dr b4 | with_reducible exact tb_al b4 | with_reducible exact tb_da b4 | with_reducible exact tb_ad b4); have H4 : Below w1.heap.size w1 w4 := bthen H3 E4; have z4 := H4.size; have hS4 : ∀ b o, b < w1.heap.size → w4.cell? ⟨b, o, none⟩ = w1.cell? ⟨b, o, none⟩ := fun b o hb => H4.cell (p := ⟨b, o, none⟩) hb; (try (have kb0 := KB.cell 0)); (try (have kf0 := KB.frozen 0)); (try (have kb1 := KB.cell 1)); (try (have kf1 := KB.frozen 1)); (try (have kb2 := KB.cell 2)); (try (have kf2 := KB.frozen 2)); (try (have kb3 := KB.cell 3)); (try (have kf3 := KB.frozen 3)); (try (have kb4 := KB.cell 4)); (try (have kf4 := KB.frozen 4)); (try (have kb5 := KB.cell 5)); (try (have kf5 := KB.frozen 5)); (try (have kb6 := KB.cell 6)); (try (have kf6 := KB.frozen 6)); (try (have kbl := KB.lt))))
    all_goals
      have h2 := b2.size; (try simp only [t_size_alloc, ← t_drew_size] at h2); have h3 := b3.size; (try simp only [t_size_alloc, ← t_drew_size] at h3); have h4 := b4.size; (try simp only [t_size_alloc, ← t_drew_size] at h4)
      have RP := R_rp.mono (show w1.heap.size ≤ _ from (by (try simp only [t_size_alloc, ← t_drew_size]); omega))
      have RQ := R_rq.mono (show w1.heap.size ≤ _ from (by (try simp only [t_size_alloc, ← t_drew_size]); omega))
      have gP := R_rp.ge
      have gQ := R_rq.ge
      (try simp only [t_size_alloc, ← t_drew_size] at gP)
      (try simp only [t_size_alloc, ← t_drew_size] at gQ)
      go_wp2_with fail
      go_meet
      first
        | (with_reducible refine ⟨w4.heap.size, A_r, c_r, B_r, d_r, rfl, rfl, ?_, ?_, ?_, ?_, ?_, ?_, ?_, ?_⟩
           · omega
           · exact fun a ha => Nat.ne_of_lt (R_rp.lt a ha)
           · exact fun a ha => Nat.ne_of_lt (R_rq.lt a ha)
           · exact Blk.new_at _ _ _ _ rfl
           · exact RP.alloc _
           · exact RQ.alloc _
           · exact HAP_r
           · exact H4.alloc z4 _)
        | (with_reducible refine ⟨w3.heap.size, A_r, c_r, B_r, d_r, rfl, rfl, ?_, ?_, ?_, ?_, ?_, ?_, ?_, ?_⟩
           · omega
           · exact (fun a ha => by have h0 := gP a ha; omega)
           · exact (fun a ha => by have h0 := gQ a ha; omega)
           · exact ((((((KB.set_ 0 _).set_ 1 _).set_ 2 _).set_ 3 _).set_ 4 _).set_ 5 _).set_ 6 _
           · exact row_far7 RP (fun a ha => by have h0 := gP a ha; omega) _ _ _ _ _ _ _
           · exact row_far7 RQ (fun a ha => by have h0 := gQ a ha; omega) _ _ _ _ _ _ _
           · exact HAP_r
           · exact below_far7 H4 (by omega) _ _ _ _ _ _ _)
        | (with_reducible refine ⟨w2.heap.size, A_r, c_r, B_r, d_r, rfl, rfl, ?_, ?_, ?_, ?_, ?_, ?_, ?_, ?_⟩
           · omega
           · exact (fun a ha => by have h0 := gP a ha; omega)
           · exact (fun a ha => by have h0 := gQ a ha; omega)
           · exact ((((((KB.set_ 0 _).set_ 1 _).set_ 2 _).set_ 3 _).set_ 4 _).set_ 5 _).set_ 6 _
           · exact row_far7 RP (fun a ha => by have h0 := gP a ha; omega) _ _ _ _ _ _ _
           · exact row_far7 RQ (fun a ha => by have h0 := gQ a ha; omega) _ _ _ _ _ _ _
           · exact HAP_r
           · exact below_far7 H4 (by omega) _ _ _ _ _ _ _)
        | (with_reducible refine ⟨w1.heap.size, A_r, c_r, B_r, d_r, rfl, rfl, ?_, ?_, ?_, ?_, ?_, ?_, ?_, ?_⟩
           · omega
           · exact (fun a ha => by have h0 := gP a ha; omega)
           · exact (fun a ha => by have h0 := gQ a ha; omega)
           · exact ((((((KB.set_ 0 _).set_ 1 _).set_ 2 _).set_ 3 _).set_ 4 _).set_ 5 _).set_ 6 _
           · exact row_far7 RP (fun a ha => by have h0 := gP a ha; omega) _ _ _ _ _ _ _
           · exact row_far7 RQ (fun a ha => by have h0 := gQ a ha; omega) _ _ _ _ _ _ _
           · exact HAP_r
           · exact below_far7 H4 (by omega) _ _ _ _ _ _ _)
  case rest =>
  obtain ⟨g_r, A_r, c_r, B_r, d_r, rfl, rfl, hg_r, HNP_r, HNQ_r, XB_r, R_rp, R_rq, HAP_r, b2⟩ := hcut
  rename World => w2
  clear lp0
  clear lp1
  have L_p0_rp := fun hn => p0_1.lt hn
  have L_q0_rp := fun hn => q0_1.lt hn
  have G_rp : W0.heap.size ≤ w1.heap.size := F_1.size
  have L_p0_rq := fun hn => p0_1.lt hn
  have L_q0_rq := fun hn => q0_1.lt hn
  have G_rq : W0.heap.size ≤ w1.heap.size := F_1.size
  have p0_2 := p0_1.below b2
  clear p0_1
  have q0_2 := q0_1.below b2
  clear q0_1
  have F_2 := bthen F_1 b2
  have rp_2 := R_rp
  clear R_rp
  have rq_2 := R_rq
  clear R_rq
  clear hcb hfb
  obtain ⟨hcb, hfb, _⟩ := bcell F_2
  have Xr_2 := XB_r
  clear XB_r
  go_wp2_with fail
  refine (toState_any U0 n0 c0 V0 m0 d0 i0x0 t0x0 l0x0 l1x0 l2x0 _ _ _ (by exact p0_2) (by exact q0_2) (by omega) (by omega)).mono ?_
  rintro e w3 ⟨A_x, c_x, B_x, d_x, rfl, R_xp, R_xq, HAP_x, b3⟩
  have M_Xr_xp := Xr_2.lt
  have M_Xr_xq := Xr_2.lt
  have L_p0_xp := fun hn => p0_2.lt hn
  have L_q0_xp := fun hn => q0_2.lt hn
  have L_rp_xp := rp_2.lt
  have L_rq_xp := rq_2.lt
  have G_xp : W0.heap.size ≤ w2.heap.size := F_2.size
  have L_p0_xq := fun hn => p0_2.lt hn
  have L_q0_xq := fun hn => q0_2.lt hn
  have L_rp_xq := rp_2.lt
  have L_rq_xq := rq_2.lt
  have G_xq : W0.heap.size ≤ w2.heap.size := F_2.size
  have p0_3 := p0_2.below b3
  clear p0_2
  have q0_3 := q0_2.below b3
  clear q0_2
  have rp_3 := rp_2.below b3
  clear rp_2
  have rq_3 := rq_2.below b3
  clear rq_2
  have Xr_3 := Xr_2.below b3
  clear Xr_2
  have F_3 := bthen F_2 b3
  have xp_3 := R_xp
  clear R_xp
  have xq_3 := R_xq
  clear R_xq
  clear hcb hfb
  obtain ⟨hcb, hfb, _⟩ := bcell F_3
  have N_rp_Xx := rp_3.lt
  have N_rq_Xx := rq_3.lt
  have N_xp_Xx := xp_3.lt
  have N_xq_Xx := xq_3.lt
  go_wp2_with fail
  obtain ⟨w4, hw4⟩ : ∃ x : World, x = w3.alloc (.cells #[.int .i64 i0x0, .int .i64 t0x0, .slice A_x n0 c_x, .slice B_x m0 d_x, .int .i64 l0x0, .int .i64 l1x0, .int .i64 l2x0] 37) := ⟨_, rfl⟩
  rw [← hw4]
  have Xx_3 : Blk w4 w3.heap.size 37 #[.int .i64 i0x0, .int .i64 t0x0, .slice A_x n0 c_x, .slice B_x m0 d_x, .int .i64 l0x0, .int .i64 l1x0, .int .i64 l2x0] := by rw [hw4]; exact (Blk.new _ _ _)
  have b4 : Below w3.heap.size w3 w4 := by rw [hw4]; (repeat' (first | (with_reducible exact Below.refl _ _) | (with_reducible assumption) | (with_reducible refine Below.alloc ?_ ?_ _) | (with_reducible refine Below.drew ?_) | (with_reducible refine Below.setCell ?_ ?_ _) | (with_reducible refine bstep (by assumption) ?_ ?_) | (with_reducible exact Nat.le_refl _) | omega | (simp [*]; done) | (simp [*]; omega)))
  clear hw4
  have p0_4 := p0_3.below b4
  clear p0_3
  have q0_4 := q0_3.below b4
  clear q0_3
  have rp_4 := rp_3.below b4
  clear rp_3
  have rq_4 := rq_3.below b4
  clear rq_3
  have Xr_4 := Xr_3.below b4
  clear Xr_3
  have xp_4 := xp_3.below b4
  clear xp_3
  have xq_4 := xq_3.below b4
  clear xq_3
  have F_4 := bthen F_3 b4
  clear hcb hfb
  obtain ⟨hcb, hfb, _⟩ := bcell F_4
  have Xx_4 := Xx_3
  have lt_Xx := Xx_4.lt
  have r_Xx0 := Xx_4.cell 0
  have r_Xx1 := Xx_4.cell 1
  have r_Xx2 := Xx_4.cell 2
  have r_Xx3 := Xx_4.cell 3
  have r_Xx4 := Xx_4.cell 4
  have r_Xx5 := Xx_4.cell 5
  have r_Xx6 := Xx_4.cell 6
  simp only [List.getElem?_toArray, List.getElem?_cons_zero, List.getElem?_cons_succ] at r_Xx0 r_Xx1 r_Xx2 r_Xx3 r_Xx4 r_Xx5 r_Xx6
  have lp1 : w.heap.size + 1 < w4.heap.size := Nat.lt_of_lt_of_le s0x1 F_4.size
  go_cut [9, 10] (fun sx bx wx => ∃ g A c B d, sx = .pointer (some ⟨g, 0, none⟩) ∧ bx = .bool rb ∧ w4.heap.size ≤ g ∧ (∀ a, A = some a → a.block ≠ g) ∧ (∀ a, B = some a → a.block ≠ g) ∧ Blk wx g 37 #[.int .i64 ri, .int .i64 rt, .slice A rn c, .slice B rm d, .int .i64 rh, .int .i64 re, .int .i64 ru] ∧ Row wx w4.heap.size 106 2 A rn c rz ∧ Row wx w4.heap.size 71 5 B rm d ry ∧ (∀ a b, A = some a → B = some b → a.block ≠ b.block) ∧ Below w4.heap.size w4 wx)
  case first =>
    have hS0_4 : ∀ b o, b < w4.heap.size → w4.cell? ⟨b, o, none⟩ = w4.cell? ⟨b, o, none⟩ := fun b o hb => rfl
    go_region_held_law (fun w' => ∀ b o, b < w4.heap.size → w'.cell? ⟨b, o, none⟩ = w4.cell? ⟨b, o, none⟩) (repeat' (first | with_reducible assumption | with_reducible exact Nat.le_refl _ | with_reducible exact hS0_4 | with_reducible refine hl_drew ?_ | with_reducible refine hl_alloc ?_ ?_ _ | with_reducible refine hl_set7 ?_ ?_ _ _ _ _ _ _ _)) (first | (go_at_call 9; refine (toEntry_any ex et ec es ek ea eb eg eh _).mono ?_; rintro e w5 ⟨rfl, b5⟩; (first | (have KB : Blk w5 w4.heap.size 37 #[.int .i64 0, .int .i64 0, .slice none 0 0, .slice none 0 0, .int .i64 0, .int .i64 0, .int .i64 0] := by with_reducible exact t_below2 b5 (Blk.new_at _ _ _ _ rfl)) | (have KB : Blk w5 w4.heap.size 37 #[.int .i64 0, .int .i64 0, .slice none 0 0, .slice none 0 0, .int .i64 0, .int .i64 0, .int .i64 0] := by with_reducible exact t_below2 b5 (Blk.drew (Blk.new_at _ _ _ _ rfl))) | (have KB : Blk w5 w4.heap.size 37 #[.int .i64 0, .int .i64 0, .slice none 0 0, .slice none 0 0, .int .i64 0, .int .i64 0, .int .i64 0] := by with_reducible exact t_below2 b5 (Blk.new_at _ _ _ _ (t_drew_size _))) | (replace KB := t_below2 b5 KB) | (replace KB := t_below2 b5 (Blk.drew KB)) | skip); have E5 : Below w4.heap.size w4 w5 := (by first | with_reducible exact b5 | with_reducible exact tb_dr b5 | with_reducible exact tb_al b5 | with_reducible exact tb_da b5 | with_reducible exact tb_ad b5); have H5 : Below w4.heap.size w4 w5 := E5; have z5 := H5.size; have hS5 : ∀ b o, b < w4.heap.size → w5.cell? ⟨b, o, none⟩ = w4.cell? ⟨b, o, none⟩ := fun b o hb => H5.cell (p := ⟨b, o, none⟩) hb) | (go_at_call 10; refine ((retV_eq HZ.out.1 HZ.out.2 (Applied_g A_x n0 c_x B_x m0 d_x i0x0 t0x0 l0x0 l1x0 l2x0 pl0 ql0 ex et ec es ek ea eb eg eh _ (by first | with_reducible exact (xp_4.below E5).sl | with_reducible exact Sl.drew (xp_4.below E5).sl | with_reducible exact Sl.alloc (xp_4.below E5).sl _ | with_reducible exact ts_da (xp_4.below E5).sl | with_reducible exact ts_ad (xp_4.below E5).sl) (by first | with_reducible exact (xq_4.below E5).sl | with_reducible exact Sl.drew (xq_4.below E5).sl | with_reducible exact Sl.alloc (xq_4.below E5).sl _ | with_reducible exact ts_da (xq_4.below E5).sl | with_reducible exact ts_ad (xq_4.below E5).sl) hpl0 hql0 hnm0 hmm0 (row_nil xp_4) (row_nil xq_4) ri rt rh re ru rp rq rn rm rb HV.out))).mono ?_; rintro e w6 ⟨A_g, c_g, B_g, d_g, rfl, R_gp, R_gq, HAP_g, b6⟩; (first | (have KB : Blk w6 w5.heap.size 37 #[.int .i64 0, .int .i64 0, .slice none 0 0, .slice none 0 0, .int .i64 0, .int .i64 0, .int .i64 0] := by with_reducible exact t_below2 b6 (Blk.new_at _ _ _ _ rfl)) | (have KB : Blk w6 w5.heap.size 37 #[.int .i64 0, .int .i64 0, .slice none 0 0, .slice none 0 0, .int .i64 0, .int .i64 0, .int .i64 0] := by with_reducible exact t_below2 b6 (Blk.drew (Blk.new_at _ _ _ _ rfl))) | (have KB : Blk w6 w5.heap.size 37 #[.int .i64 0, .int .i64 0, .slice none 0 0, .slice none 0 0, .int .i64 0, .int .i64 0, .int .i64 0] := by with_reducible exact t_below2 b6 (Blk.new_at _ _ _ _ (t_drew_size _))) | (replace KB := t_below2 b6 KB) | (replace KB := t_below2 b6 (Blk.drew KB)) | skip); have E6 : Below w5.heap.size w5 w6 := (by first | with_reducible exact b6 | with_reducible exact tb_dr b6 | with_reducible exact tb_al b6 | with_reducible exact tb_da b6 | with_reducible exact tb_ad b6); have H6 : Below w4.heap.size w4 w6 := bthen H5 E6; have z6 := H6.size; have hS6 : ∀ b o, b < w4.heap.size → w6.cell? ⟨b, o, none⟩ = w4.cell? ⟨b, o, none⟩ := fun b o hb => H6.cell (p := ⟨b, o, none⟩) hb; (try (have kb0 := KB.cell 0)); (try (have kf0 := KB.frozen 0)); (try (have kb1 := KB.cell 1)); (try (have kf1 := KB.frozen 1)); (try (have kb2 := KB.cell 2)); (try (have kf2 := KB.frozen 2)); (try (have kb3 := KB.cell 3)); (try (have kf3 := KB.frozen 3)); (try (have kb4 := KB.cell 4)); (try (have kf4 := KB.frozen 4)); (try (have kb5 := KB.cell 5)); (try (have kf5 := KB.frozen 5)); (try (have kb6 := KB.cell 6)); (try (have kf6 := KB.frozen 6)); (try (have kbl := KB.lt))))
    all_goals
      have h5 := b5.size; (try simp only [t_size_alloc, ← t_drew_size] at h5); have h6 := b6.size; (try simp only [t_size_alloc, ← t_drew_size] at h6)
      have RP := R_gp.mono (show w4.heap.size ≤ _ from (by (try simp only [t_size_alloc, ← t_drew_size]); omega))
      have RQ := R_gq.mono (show w4.heap.size ≤ _ from (by (try simp only [t_size_alloc, ← t_drew_size]); omega))
      have gP := R_gp.ge
      have gQ := R_gq.ge
      (try simp only [t_size_alloc, ← t_drew_size] at gP)
      (try simp only [t_size_alloc, ← t_drew_size] at gQ)
      go_wp2_with fail
      go_meet
      first
        | (with_reducible refine ⟨w6.heap.size, A_g, c_g, B_g, d_g, rfl, rfl, ?_, ?_, ?_, ?_, ?_, ?_, ?_, ?_⟩
           · omega
           · exact fun a ha => Nat.ne_of_lt (R_gp.lt a ha)
           · exact fun a ha => Nat.ne_of_lt (R_gq.lt a ha)
           · exact Blk.new_at _ _ _ _ rfl
           · exact RP.alloc _
           · exact RQ.alloc _
           · exact HAP_g
           · exact H6.alloc z6 _)
        | (with_reducible refine ⟨w5.heap.size, A_g, c_g, B_g, d_g, rfl, rfl, ?_, ?_, ?_, ?_, ?_, ?_, ?_, ?_⟩
           · omega
           · exact (fun a ha => by have h0 := gP a ha; omega)
           · exact (fun a ha => by have h0 := gQ a ha; omega)
           · exact ((((((KB.set_ 0 _).set_ 1 _).set_ 2 _).set_ 3 _).set_ 4 _).set_ 5 _).set_ 6 _
           · exact row_far7 RP (fun a ha => by have h0 := gP a ha; omega) _ _ _ _ _ _ _
           · exact row_far7 RQ (fun a ha => by have h0 := gQ a ha; omega) _ _ _ _ _ _ _
           · exact HAP_g
           · exact below_far7 H6 (by omega) _ _ _ _ _ _ _)
        | (with_reducible refine ⟨w4.heap.size, A_g, c_g, B_g, d_g, rfl, rfl, ?_, ?_, ?_, ?_, ?_, ?_, ?_, ?_⟩
           · omega
           · exact (fun a ha => by have h0 := gP a ha; omega)
           · exact (fun a ha => by have h0 := gQ a ha; omega)
           · exact ((((((KB.set_ 0 _).set_ 1 _).set_ 2 _).set_ 3 _).set_ 4 _).set_ 5 _).set_ 6 _
           · exact row_far7 RP (fun a ha => by have h0 := gP a ha; omega) _ _ _ _ _ _ _
           · exact row_far7 RQ (fun a ha => by have h0 := gQ a ha; omega) _ _ _ _ _ _ _
           · exact HAP_g
           · exact below_far7 H6 (by omega) _ _ _ _ _ _ _)
  case rest =>
  obtain ⟨g_g, A_g, c_g, B_g, d_g, rfl, rfl, hg_g, HNP_g, HNQ_g, XB_g, R_gp, R_gq, HAP_g, b5⟩ := hcut
  rename World => w5
  clear lt_Xx r_Xx0 r_Xx1 r_Xx2 r_Xx3 r_Xx4 r_Xx5 r_Xx6
  clear lp1
  have N_rp_Xg : ∀ a, A_r = some a → a.block < g_g := fun a ha => Nat.lt_of_lt_of_le (rp_4.lt a ha) hg_g
  have N_rq_Xg : ∀ a, B_r = some a → a.block < g_g := fun a ha => Nat.lt_of_lt_of_le (rq_4.lt a ha) hg_g
  have N_xp_Xg : ∀ a, A_x = some a → a.block < g_g := fun a ha => Nat.lt_of_lt_of_le (xp_4.lt a ha) hg_g
  have N_xq_Xg : ∀ a, B_x = some a → a.block < g_g := fun a ha => Nat.lt_of_lt_of_le (xq_4.lt a ha) hg_g
  have M_Xr_gp := Xr_4.lt
  have M_Xx_gp := Xx_4.lt
  have M_Xr_gq := Xr_4.lt
  have M_Xx_gq := Xx_4.lt
  have L_p0_gp := fun hn => p0_4.lt hn
  have L_q0_gp := fun hn => q0_4.lt hn
  have L_rp_gp := rp_4.lt
  have L_rq_gp := rq_4.lt
  have L_xp_gp := xp_4.lt
  have L_xq_gp := xq_4.lt
  have G_gp : W0.heap.size ≤ w4.heap.size := F_4.size
  have L_p0_gq := fun hn => p0_4.lt hn
  have L_q0_gq := fun hn => q0_4.lt hn
  have L_rp_gq := rp_4.lt
  have L_rq_gq := rq_4.lt
  have L_xp_gq := xp_4.lt
  have L_xq_gq := xq_4.lt
  have G_gq : W0.heap.size ≤ w4.heap.size := F_4.size
  have p0_5 := p0_4.below b5
  clear p0_4
  have q0_5 := q0_4.below b5
  clear q0_4
  have rp_5 := rp_4.below b5
  clear rp_4
  have rq_5 := rq_4.below b5
  clear rq_4
  have Xr_5 := Xr_4.below b5
  clear Xr_4
  have xp_5 := xp_4.below b5
  clear xp_4
  have xq_5 := xq_4.below b5
  clear xq_4
  have Xx_5 := Xx_4.below b5
  clear Xx_4
  have F_5 := bthen F_4 b5
  have gp_5 := R_gp
  clear R_gp
  have gq_5 := R_gq
  clear R_gq
  clear hcb hfb
  obtain ⟨hcb, hfb, _⟩ := bcell F_5
  have Xg_5 := XB_g
  clear XB_g
  have lt_Xr := Xr_5.lt
  have r_Xr0 := Xr_5.cell 0
  have r_Xr1 := Xr_5.cell 1
  have r_Xr2 := Xr_5.cell 2
  have r_Xr3 := Xr_5.cell 3
  have r_Xr4 := Xr_5.cell 4
  have r_Xr5 := Xr_5.cell 5
  have r_Xr6 := Xr_5.cell 6
  simp only [List.getElem?_toArray, List.getElem?_cons_zero, List.getElem?_cons_succ] at r_Xr0 r_Xr1 r_Xr2 r_Xr3 r_Xr4 r_Xr5 r_Xr6
  have lt_Xg := Xg_5.lt
  have r_Xg0 := Xg_5.cell 0
  have r_Xg1 := Xg_5.cell 1
  have r_Xg2 := Xg_5.cell 2
  have r_Xg3 := Xg_5.cell 3
  have r_Xg4 := Xg_5.cell 4
  have r_Xg5 := Xg_5.cell 5
  have r_Xg6 := Xg_5.cell 6
  simp only [List.getElem?_toArray, List.getElem?_cons_zero, List.getElem?_cons_succ] at r_Xg0 r_Xg1 r_Xg2 r_Xg3 r_Xg4 r_Xg5 r_Xg6
  go_wp2_with fail
  refine (eqState_same A_g A_r rn c_g c_r B_g B_r rm d_g d_r ri rt rh re ru _ _ _ gp_5.sl gq_5.sl rp_5.sl rq_5.sl hrnm hrmm).mono ?_
  rintro e w6 ⟨rfl, b6⟩
  have p0_6 := p0_5.below b6
  clear p0_5
  have q0_6 := q0_5.below b6
  clear q0_5
  have rp_6 := rp_5.below b6
  clear rp_5
  have rq_6 := rq_5.below b6
  clear rq_5
  have Xr_6 := Xr_5.below b6
  clear Xr_5
  have xp_6 := xp_5.below b6
  clear xp_5
  have xq_6 := xq_5.below b6
  clear xq_5
  have Xx_6 := Xx_5.below b6
  clear Xx_5
  have gp_6 := gp_5.below b6
  clear gp_5
  have gq_6 := gq_5.below b6
  clear gq_5
  have Xg_6 := Xg_5.below b6
  clear Xg_5
  have F_6 := bthen F_5 b6
  clear hcb hfb
  obtain ⟨hcb, hfb, _⟩ := bcell F_6
  clear lt_Xr r_Xr0 r_Xr1 r_Xr2 r_Xr3 r_Xr4 r_Xr5 r_Xr6
  clear lt_Xg r_Xg0 r_Xg1 r_Xg2 r_Xg3 r_Xg4 r_Xg5 r_Xg6
  have lt_Xx := Xx_6.lt
  have r_Xx0 := Xx_6.cell 0
  have r_Xx1 := Xx_6.cell 1
  have r_Xx2 := Xx_6.cell 2
  have r_Xx3 := Xx_6.cell 3
  have r_Xx4 := Xx_6.cell 4
  have r_Xx5 := Xx_6.cell 5
  have r_Xx6 := Xx_6.cell 6
  simp only [List.getElem?_toArray, List.getElem?_cons_zero, List.getElem?_cons_succ] at r_Xx0 r_Xx1 r_Xx2 r_Xx3 r_Xx4 r_Xx5 r_Xx6
  have lp0 : w.heap.size < w6.heap.size := Nat.lt_of_lt_of_le s0x0 F_6.size
  go_wp2_with fail
  have hS0_6 : ∀ b o, b < w6.heap.size → w6.cell? ⟨b, o, none⟩ = w6.cell? ⟨b, o, none⟩ := fun b o hb => rfl
  go_region_held_law (fun w' => ∀ b o, b < w6.heap.size → w'.cell? ⟨b, o, none⟩ = w6.cell? ⟨b, o, none⟩) (first | assumption | exact hS0_6) (first | (go_at_call 8; refine (toState_any U0 n0 c0 V0 m0 d0 i0x0 t0x0 l0x0 l1x0 l2x0 _ _ _ (by exact p0_6) (by exact q0_6) (by omega) (by omega)).mono ?_; rintro e w7 ⟨A_v, c_v, B_v, d_v, rfl, R_vp, R_vq, HAP_v, b7⟩; replace b7 : Below w6.heap.size w6 w7 := ⟨b7.os, b7.tape, b7.output, b7.size, b7.block⟩; have F_7 : Below W0.heap.size W0 w7 := bthen F_6 b7; have E_7 : Below w6.heap.size w6 w7 := b7; have hS7 : ∀ b o, b < w6.heap.size → w7.cell? ⟨b, o, none⟩ = w6.cell? ⟨b, o, none⟩ := fun b o hb => E_7.cell (p := ⟨b, o, none⟩) hb) | (go_at_call 11; refine (eqState_same A_x A_v n0 c_x c_v B_x B_v m0 d_x d_v i0x0 t0x0 l0x0 l1x0 l2x0 _ _ _ (xp_6.below b7).sl (xq_6.below b7).sl R_vp.sl R_vq.sl hnm0 hmm0).mono ?_; rintro e w8 ⟨rfl, b8⟩; have F_8 : Below W0.heap.size W0 w8 := bthen F_7 b8; have E_8 : Below w6.heap.size w6 w8 := bthen E_7 b8; have hS8 : ∀ b o, b < w6.heap.size → w8.cell? ⟨b, o, none⟩ = w6.cell? ⟨b, o, none⟩ := fun b o hb => E_8.cell (p := ⟨b, o, none⟩) hb))
  clear hS0_6 hS7 E_7 hS8 E_8
  rename (∀ b o, b < w6.heap.size → w8.cell? ⟨b, o, none⟩ = w6.cell? ⟨b, o, none⟩) => hHX
  clear hHX
  clear lt_Xx r_Xx0 r_Xx1 r_Xx2 r_Xx3 r_Xx4 r_Xx5 r_Xx6
  clear lp0
  have M_Xr_vp := Xr_6.lt
  have M_Xx_vp := Xx_6.lt
  have M_Xg_vp := Xg_6.lt
  have M_Xr_vq := Xr_6.lt
  have M_Xx_vq := Xx_6.lt
  have M_Xg_vq := Xg_6.lt
  have L_p0_vp := fun hn => p0_6.lt hn
  have L_q0_vp := fun hn => q0_6.lt hn
  have L_rp_vp := rp_6.lt
  have L_rq_vp := rq_6.lt
  have L_xp_vp := xp_6.lt
  have L_xq_vp := xq_6.lt
  have L_gp_vp := gp_6.lt
  have L_gq_vp := gq_6.lt
  have G_vp : W0.heap.size ≤ w6.heap.size := F_6.size
  have L_p0_vq := fun hn => p0_6.lt hn
  have L_q0_vq := fun hn => q0_6.lt hn
  have L_rp_vq := rp_6.lt
  have L_rq_vq := rq_6.lt
  have L_xp_vq := xp_6.lt
  have L_xq_vq := xq_6.lt
  have L_gp_vq := gp_6.lt
  have L_gq_vq := gq_6.lt
  have G_vq : W0.heap.size ≤ w6.heap.size := F_6.size
  have p0_7 := p0_6.below b7
  clear p0_6
  have q0_7 := q0_6.below b7
  clear q0_6
  have rp_7 := rp_6.below b7
  clear rp_6
  have rq_7 := rq_6.below b7
  clear rq_6
  have Xr_7 := Xr_6.below b7
  clear Xr_6
  have xp_7 := xp_6.below b7
  clear xp_6
  have xq_7 := xq_6.below b7
  clear xq_6
  have Xx_7 := Xx_6.below b7
  clear Xx_6
  have gp_7 := gp_6.below b7
  clear gp_6
  have gq_7 := gq_6.below b7
  clear gq_6
  have Xg_7 := Xg_6.below b7
  clear Xg_6
  have vp_7 := R_vp
  clear R_vp
  have vq_7 := R_vq
  clear R_vq
  clear hcb hfb
  obtain ⟨hcb, hfb, _⟩ := bcell F_7
  have p0_8 := p0_7.below b8
  clear p0_7
  have q0_8 := q0_7.below b8
  clear q0_7
  have rp_8 := rp_7.below b8
  clear rp_7
  have rq_8 := rq_7.below b8
  clear rq_7
  have Xr_8 := Xr_7.below b8
  clear Xr_7
  have xp_8 := xp_7.below b8
  clear xp_7
  have xq_8 := xq_7.below b8
  clear xq_7
  have Xx_8 := Xx_7.below b8
  clear Xx_7
  have gp_8 := gp_7.below b8
  clear gp_7
  have gq_8 := gq_7.below b8
  clear gq_7
  have Xg_8 := Xg_7.below b8
  clear Xg_7
  have vp_8 := vp_7.below b8
  clear vp_7
  have vq_8 := vq_7.below b8
  clear vq_7
  clear hcb hfb
  obtain ⟨hcb, hfb, _⟩ := bcell F_8
  have lt_Xx := Xx_8.lt
  have r_Xx0 := Xx_8.cell 0
  have r_Xx1 := Xx_8.cell 1
  have r_Xx2 := Xx_8.cell 2
  have r_Xx3 := Xx_8.cell 3
  have r_Xx4 := Xx_8.cell 4
  have r_Xx5 := Xx_8.cell 5
  have r_Xx6 := Xx_8.cell 6
  simp only [List.getElem?_toArray, List.getElem?_cons_zero, List.getElem?_cons_succ] at r_Xx0 r_Xx1 r_Xx2 r_Xx3 r_Xx4 r_Xx5 r_Xx6
  go_wp2_with fail
  refine (markState_any _ A_x n0 c_x B_x m0 d_x i0x0 t0x0 l0x0 l1x0 l2x0 _ _ 1 _ xp_8 xq_8 HAP_x hnz0 hmz0 (by omega) (by omega)).mono ?_
  rintro e w9 ⟨rfl, R_xp, R_xq, hw9⟩
  have F_9 := hw9.below F_8 F_8.size (fun y hy => Nat.le_trans G_xp (xp_8.ge y hy)) (fun y hy => Nat.le_trans G_xq (xq_8.ge y hy))
  clear Xx_8 lt_Xx r_Xx0 r_Xx1 r_Xx2 r_Xx3 r_Xx4 r_Xx5 r_Xx6
  have p0_9 := p0_8.wr2 hw9 (fun hn => apart_of (L_p0_xp hn) xp_8.ge) (fun hn => apart_of (L_p0_xq hn) xq_8.ge)
  clear p0_8
  have q0_9 := q0_8.wr2 hw9 (fun hn => apart_of (L_q0_xp hn) xp_8.ge) (fun hn => apart_of (L_q0_xq hn) xq_8.ge)
  clear q0_8
  have rp_9 := rp_8.wr2 hw9 (apart_of L_rp_xp xp_8.ge) (apart_of L_rp_xq xq_8.ge)
  clear rp_8
  have rq_9 := rq_8.wr2 hw9 (apart_of L_rq_xp xp_8.ge) (apart_of L_rq_xq xq_8.ge)
  clear rq_8
  have Xr_9 := Xr_8.wr2 hw9 (fun a ha => Nat.ne_of_gt (Nat.lt_of_lt_of_le M_Xr_xp (xp_8.ge a ha))) (fun a ha => Nat.ne_of_gt (Nat.lt_of_lt_of_le M_Xr_xq (xq_8.ge a ha)))
  clear Xr_8
  have xp_9 := R_xp
  clear R_xp xp_8
  have xq_9 := R_xq
  clear R_xq xq_8
  have gp_9 := gp_8.wr2 hw9 (apart_symm (apart_of L_xp_gp gp_8.ge)) (apart_symm (apart_of L_xq_gp gp_8.ge))
  clear gp_8
  have gq_9 := gq_8.wr2 hw9 (apart_symm (apart_of L_xp_gq gq_8.ge)) (apart_symm (apart_of L_xq_gq gq_8.ge))
  clear gq_8
  have Xg_9 := Xg_8.wr2 hw9 (fun a ha => Nat.ne_of_lt (N_xp_Xg a ha)) (fun a ha => Nat.ne_of_lt (N_xq_Xg a ha))
  clear Xg_8
  have vp_9 := vp_8.wr2 hw9 (apart_symm (apart_of L_xp_vp vp_8.ge)) (apart_symm (apart_of L_xq_vp vp_8.ge))
  clear vp_8
  have vq_9 := vq_8.wr2 hw9 (apart_symm (apart_of L_xp_vq vq_8.ge)) (apart_symm (apart_of L_xq_vq vq_8.ge))
  clear vq_8
  clear hw9
  clear hcb hfb
  obtain ⟨hcb, hfb, _⟩ := bcell F_9
  clear xp_9
  clear xq_9
  have lt_Xg := Xg_9.lt
  have r_Xg0 := Xg_9.cell 0
  have r_Xg1 := Xg_9.cell 1
  have r_Xg2 := Xg_9.cell 2
  have r_Xg3 := Xg_9.cell 3
  have r_Xg4 := Xg_9.cell 4
  have r_Xg5 := Xg_9.cell 5
  have r_Xg6 := Xg_9.cell 6
  simp only [List.getElem?_toArray, List.getElem?_cons_zero, List.getElem?_cons_succ] at r_Xg0 r_Xg1 r_Xg2 r_Xg3 r_Xg4 r_Xg5 r_Xg6
  have lt_Xr := Xr_9.lt
  have r_Xr0 := Xr_9.cell 0
  have r_Xr1 := Xr_9.cell 1
  have r_Xr2 := Xr_9.cell 2
  have r_Xr3 := Xr_9.cell 3
  have r_Xr4 := Xr_9.cell 4
  have r_Xr5 := Xr_9.cell 5
  have r_Xr6 := Xr_9.cell 6
  simp only [List.getElem?_toArray, List.getElem?_cons_zero, List.getElem?_cons_succ] at r_Xr0 r_Xr1 r_Xr2 r_Xr3 r_Xr4 r_Xr5 r_Xr6
  go_wp2_with fail
  refine (eqState_same A_g A_r rn c_g c_r B_g B_r rm d_g d_r ri rt rh re ru _ _ _ gp_9.sl gq_9.sl rp_9.sl rq_9.sl hrnm hrmm).mono ?_
  rintro e w10 ⟨rfl, b10⟩
  have p0_10 := p0_9.below b10
  clear p0_9
  have q0_10 := q0_9.below b10
  clear q0_9
  have rp_10 := rp_9.below b10
  clear rp_9
  have rq_10 := rq_9.below b10
  clear rq_9
  have Xr_10 := Xr_9.below b10
  clear Xr_9
  have gp_10 := gp_9.below b10
  clear gp_9
  have gq_10 := gq_9.below b10
  clear gq_9
  have Xg_10 := Xg_9.below b10
  clear Xg_9
  have vp_10 := vp_9.below b10
  clear vp_9
  have vq_10 := vq_9.below b10
  clear vq_9
  have F_10 := bthen F_9 b10
  clear hcb hfb
  obtain ⟨hcb, hfb, _⟩ := bcell F_10
  clear lt_Xg r_Xg0 r_Xg1 r_Xg2 r_Xg3 r_Xg4 r_Xg5 r_Xg6
  clear lt_Xr r_Xr0 r_Xr1 r_Xr2 r_Xr3 r_Xr4 r_Xr5 r_Xr6
  have lt_Xg := Xg_10.lt
  have r_Xg0 := Xg_10.cell 0
  have r_Xg1 := Xg_10.cell 1
  have r_Xg2 := Xg_10.cell 2
  have r_Xg3 := Xg_10.cell 3
  have r_Xg4 := Xg_10.cell 4
  have r_Xg5 := Xg_10.cell 5
  have r_Xg6 := Xg_10.cell 6
  simp only [List.getElem?_toArray, List.getElem?_cons_zero, List.getElem?_cons_succ] at r_Xg0 r_Xg1 r_Xg2 r_Xg3 r_Xg4 r_Xg5 r_Xg6
  go_wp2_with fail
  refine (markState_any _ A_g rn c_g B_g rm d_g ri rt rh re ru _ _ 1 _ gp_10 gq_10 HAP_g hrn2 hrm2 (by omega) (by omega)).mono ?_
  rintro e w11 ⟨rfl, R_gp, R_gq, hw11⟩
  have F_11 := hw11.below F_10 F_10.size (fun y hy => Nat.le_trans G_gp (gp_10.ge y hy)) (fun y hy => Nat.le_trans G_gq (gq_10.ge y hy))
  have p0_11 := p0_10.wr2 hw11 (fun hn => apart_of (L_p0_gp hn) gp_10.ge) (fun hn => apart_of (L_p0_gq hn) gq_10.ge)
  clear p0_10
  have q0_11 := q0_10.wr2 hw11 (fun hn => apart_of (L_q0_gp hn) gp_10.ge) (fun hn => apart_of (L_q0_gq hn) gq_10.ge)
  clear q0_10
  have rp_11 := rp_10.wr2 hw11 (apart_of L_rp_gp gp_10.ge) (apart_of L_rp_gq gq_10.ge)
  clear rp_10
  have rq_11 := rq_10.wr2 hw11 (apart_of L_rq_gp gp_10.ge) (apart_of L_rq_gq gq_10.ge)
  clear rq_10
  have Xr_11 := Xr_10.wr2 hw11 (fun a ha => Nat.ne_of_gt (Nat.lt_of_lt_of_le M_Xr_gp (gp_10.ge a ha))) (fun a ha => Nat.ne_of_gt (Nat.lt_of_lt_of_le M_Xr_gq (gq_10.ge a ha)))
  clear Xr_10
  have gp_11 := R_gp
  clear R_gp gp_10
  have gq_11 := R_gq
  clear R_gq gq_10
  have Xg_11 := Xg_10.wr2 hw11 HNP_g HNQ_g
  clear Xg_10
  have vp_11 := vp_10.wr2 hw11 (apart_symm (apart_of L_gp_vp vp_10.ge)) (apart_symm (apart_of L_gq_vp vp_10.ge))
  clear vp_10
  have vq_11 := vq_10.wr2 hw11 (apart_symm (apart_of L_gp_vq vq_10.ge)) (apart_symm (apart_of L_gq_vq vq_10.ge))
  clear vq_10
  clear hw11
  clear hcb hfb
  obtain ⟨hcb, hfb, _⟩ := bcell F_11
  clear lt_Xg r_Xg0 r_Xg1 r_Xg2 r_Xg3 r_Xg4 r_Xg5 r_Xg6
  have lt_Xg := Xg_11.lt
  have r_Xg0 := Xg_11.cell 0
  have r_Xg1 := Xg_11.cell 1
  have r_Xg2 := Xg_11.cell 2
  have r_Xg3 := Xg_11.cell 3
  have r_Xg4 := Xg_11.cell 4
  have r_Xg5 := Xg_11.cell 5
  have r_Xg6 := Xg_11.cell 6
  simp only [List.getElem?_toArray, List.getElem?_cons_zero, List.getElem?_cons_succ] at r_Xg0 r_Xg1 r_Xg2 r_Xg3 r_Xg4 r_Xg5 r_Xg6
  go_wp2_with fail
  refine (heldState_any A_g rn c_g B_g rm d_g ri rt rh re ru 1 _ gp_11.sl gq_11.sl hrn2 hrm2 (by omega) (by omega)).mono ?_
  rintro e w12 ⟨rfl, b12⟩
  have p0_12 := p0_11.below b12
  clear p0_11
  have q0_12 := q0_11.below b12
  clear q0_11
  have rp_12 := rp_11.below b12
  clear rp_11
  have rq_12 := rq_11.below b12
  clear rq_11
  have Xr_12 := Xr_11.below b12
  clear Xr_11
  have gp_12 := gp_11.below b12
  clear gp_11
  have gq_12 := gq_11.below b12
  clear gq_11
  have Xg_12 := Xg_11.below b12
  clear Xg_11
  have vp_12 := vp_11.below b12
  clear vp_11
  have vq_12 := vq_11.below b12
  clear vq_11
  have F_12 := bthen F_11 b12
  clear hcb hfb
  obtain ⟨hcb, hfb, _⟩ := bcell F_12
  clear lt_Xg r_Xg0 r_Xg1 r_Xg2 r_Xg3 r_Xg4 r_Xg5 r_Xg6
  have lp0 : w.heap.size < w12.heap.size := Nat.lt_of_lt_of_le s0x0 F_12.size
  have lp1 : w.heap.size + 1 < w12.heap.size := Nat.lt_of_lt_of_le s0x1 F_12.size
  go_upto_region 24 with fail
  go_cut [14, 15] (fun sx bx wx => ∃ g A c B d, sx = .pointer (some ⟨g, 0, none⟩) ∧ bx = .bool rb ∧ w12.heap.size ≤ g ∧ (∀ a, A = some a → a.block ≠ g) ∧ (∀ a, B = some a → a.block ≠ g) ∧ Blk wx g 37 #[.int .i64 ri, .int .i64 rt, .slice A rn c, .slice B rm d, .int .i64 rh, .int .i64 re, .int .i64 ru] ∧ Row wx w12.heap.size 106 2 A rn c rz ∧ Row wx w12.heap.size 71 5 B rm d ry ∧ (∀ a b, A = some a → B = some b → a.block ≠ b.block) ∧ Below w12.heap.size w12 wx)
  case first =>
    have hS0_12 : ∀ b o, b < w12.heap.size → w12.cell? ⟨b, o, none⟩ = w12.cell? ⟨b, o, none⟩ := fun b o hb => rfl
    go_region_held_law (fun w' => ∀ b o, b < w12.heap.size → w'.cell? ⟨b, o, none⟩ = w12.cell? ⟨b, o, none⟩) (repeat' (first | with_reducible assumption | with_reducible exact Nat.le_refl _ | with_reducible exact hS0_12 | with_reducible refine hl_drew ?_ | with_reducible refine hl_alloc ?_ ?_ _ | with_reducible refine hl_set7 ?_ ?_ _ _ _ _ _ _ _)) (first | (go_at_call 8; refine (toState_any U0 n0 c0 V0 m0 d0 i0x0 t0x0 l0x0 l1x0 l2x0 _ _ _ (by first | with_reducible exact p0_12 | with_reducible exact Sl.drew p0_12 | with_reducible exact Sl.alloc p0_12 _ | with_reducible exact ts_da p0_12 | with_reducible exact ts_ad p0_12) (by first | with_reducible exact q0_12 | with_reducible exact Sl.drew q0_12 | with_reducible exact Sl.alloc q0_12 _ | with_reducible exact ts_da q0_12 | with_reducible exact ts_ad q0_12) (by omega) (by omega)).mono ?_; rintro e w13 ⟨A_y, c_y, B_y, d_y, rfl, R_yp, R_yq, HAP_y, b13⟩; (first | (have KB : Blk w13 w12.heap.size 37 #[.int .i64 0, .int .i64 0, .slice none 0 0, .slice none 0 0, .int .i64 0, .int .i64 0, .int .i64 0] := by with_reducible exact t_below2 b13 (Blk.new_at _ _ _ _ rfl)) | (have KB : Blk w13 w12.heap.size 37 #[.int .i64 0, .int .i64 0, .slice none 0 0, .slice none 0 0, .int .i64 0, .int .i64 0, .int .i64 0] := by with_reducible exact t_below2 b13 (Blk.drew (Blk.new_at _ _ _ _ rfl))) | (have KB : Blk w13 w12.heap.size 37 #[.int .i64 0, .int .i64 0, .slice none 0 0, .slice none 0 0, .int .i64 0, .int .i64 0, .int .i64 0] := by with_reducible exact t_below2 b13 (Blk.new_at _ _ _ _ (t_drew_size _))) | (replace KB := t_below2 b13 KB) | (replace KB := t_below2 b13 (Blk.drew KB)) | skip); have E13 : Below w12.heap.size w12 w13 := (by first | with_reducible exact b13 | with_reducible exact tb_dr b13 | with_reducible exact tb_al b13 | with_reducible exact tb_da b13 | with_reducible exact tb_ad b13); have H13 : Below w12.heap.size w12 w13 := E13; have z13 := H13.size; have hS13 : ∀ b o, b < w12.heap.size → w13.cell? ⟨b, o, none⟩ = w12.cell? ⟨b, o, none⟩ := fun b o hb => H13.cell (p := ⟨b, o, none⟩) hb) | (go_at_call 9; refine (toEntry_any ex et ec es ek ea eb eg eh _).mono ?_; rintro e w14 ⟨rfl, b14⟩; (first | (have KB : Blk w14 w13.heap.size 37 #[.int .i64 0, .int .i64 0, .slice none 0 0, .slice none 0 0, .int .i64 0, .int .i64 0, .int .i64 0] := by with_reducible exact t_below2 b14 (Blk.new_at _ _ _ _ rfl)) | (have KB : Blk w14 w13.heap.size 37 #[.int .i64 0, .int .i64 0, .slice none 0 0, .slice none 0 0, .int .i64 0, .int .i64 0, .int .i64 0] := by with_reducible exact t_below2 b14 (Blk.drew (Blk.new_at _ _ _ _ rfl))) | (have KB : Blk w14 w13.heap.size 37 #[.int .i64 0, .int .i64 0, .slice none 0 0, .slice none 0 0, .int .i64 0, .int .i64 0, .int .i64 0] := by with_reducible exact t_below2 b14 (Blk.new_at _ _ _ _ (t_drew_size _))) | (replace KB := t_below2 b14 KB) | (replace KB := t_below2 b14 (Blk.drew KB)) | skip); have E14 : Below w13.heap.size w13 w14 := (by first | with_reducible exact b14 | with_reducible exact tb_dr b14 | with_reducible exact tb_al b14 | with_reducible exact tb_da b14 | with_reducible exact tb_ad b14); have H14 : Below w12.heap.size w12 w14 := bthen H13 E14; have z14 := H14.size; have hS14 : ∀ b o, b < w12.heap.size → w14.cell? ⟨b, o, none⟩ = w12.cell? ⟨b, o, none⟩ := fun b o hb => H14.cell (p := ⟨b, o, none⟩) hb) | (go_at_call 10; refine ((retV_eq HZ.out.1 HZ.out.2 (Applied_g A_y n0 c_y B_y m0 d_y i0x0 t0x0 l0x0 l1x0 l2x0 pl0 ql0 ex et ec es ek ea eb eg eh _ (by first | with_reducible exact (R_yp.below E14).sl | with_reducible exact Sl.drew (R_yp.below E14).sl | with_reducible exact Sl.alloc (R_yp.below E14).sl _ | with_reducible exact ts_da (R_yp.below E14).sl | with_reducible exact ts_ad (R_yp.below E14).sl) (by first | with_reducible exact (R_yq.below E14).sl | with_reducible exact Sl.drew (R_yq.below E14).sl | with_reducible exact Sl.alloc (R_yq.below E14).sl _ | with_reducible exact ts_da (R_yq.below E14).sl | with_reducible exact ts_ad (R_yq.below E14).sl) hpl0 hql0 hnm0 hmm0 (row_nil R_yp) (row_nil R_yq) ri rt rh re ru rp rq rn rm rb HV.out))).mono ?_; rintro e w15 ⟨A_h, c_h, B_h, d_h, rfl, R_hp, R_hq, HAP_h, b15⟩; (first | (have KB : Blk w15 w14.heap.size 37 #[.int .i64 0, .int .i64 0, .slice none 0 0, .slice none 0 0, .int .i64 0, .int .i64 0, .int .i64 0] := by with_reducible exact t_below2 b15 (Blk.new_at _ _ _ _ rfl)) | (have KB : Blk w15 w14.heap.size 37 #[.int .i64 0, .int .i64 0, .slice none 0 0, .slice none 0 0, .int .i64 0, .int .i64 0, .int .i64 0] := by with_reducible exact t_below2 b15 (Blk.drew (Blk.new_at _ _ _ _ rfl))) | (have KB : Blk w15 w14.heap.size 37 #[.int .i64 0, .int .i64 0, .slice none 0 0, .slice none 0 0, .int .i64 0, .int .i64 0, .int .i64 0] := by with_reducible exact t_below2 b15 (Blk.new_at _ _ _ _ (t_drew_size _))) | (replace KB := t_below2 b15 KB) | (replace KB := t_below2 b15 (Blk.drew KB)) | skip); have E15 : Below w14.heap.size w14 w15 := (by first | with_reducible exact b15 | with_reducible exact tb_dr b15 | with_reducible exact tb_al b15 | with_reducible exact tb_da b15 | with_reducible exact tb_ad b15); have H15 : Below w12.heap.size w12 w15 := bthen H14 E15; have z15 := H15.size; have hS15 : ∀ b o, b < w12.heap.size → w15.cell? ⟨b, o, none⟩ = w12.cell? ⟨b, o, none⟩ := fun b o hb => H15.cell (p := ⟨b, o, none⟩) hb; (try (have kb0 := KB.cell 0)); (try (have kf0 := KB.frozen 0)); (try (have kb1 := KB.cell 1)); (try (have kf1 := KB.frozen 1)); (try (have kb2 := KB.cell 2)); (try (have kf2 := KB.frozen 2)); (try (have kb3 := KB.cell 3)); (try (have kf3 := KB.frozen 3)); (try (have kb4 := KB.cell 4)); (try (have kf4 := KB.frozen 4)); (try (have kb5 := KB.cell 5)); (try (have kf5 := KB.frozen 5)); (try (have kb6 := KB.cell 6)); (try (have kf6 := KB.frozen 6)); (try (have kbl := KB.lt))))
    all_goals
      have h13 := b13.size; (try simp only [t_size_alloc, ← t_drew_size] at h13); have h14 := b14.size; (try simp only [t_size_alloc, ← t_drew_size] at h14); have h15 := b15.size; (try simp only [t_size_alloc, ← t_drew_size] at h15)
      have RP := R_hp.mono (show w12.heap.size ≤ _ from (by (try simp only [t_size_alloc, ← t_drew_size]); omega))
      have RQ := R_hq.mono (show w12.heap.size ≤ _ from (by (try simp only [t_size_alloc, ← t_drew_size]); omega))
      have gP := R_hp.ge
      have gQ := R_hq.ge
      (try simp only [t_size_alloc, ← t_drew_size] at gP)
      (try simp only [t_size_alloc, ← t_drew_size] at gQ)
      go_wp2_with fail
      go_meet
      first
        | (with_reducible refine ⟨w15.heap.size, A_h, c_h, B_h, d_h, rfl, rfl, ?_, ?_, ?_, ?_, ?_, ?_, ?_, ?_⟩
           · omega
           · exact fun a ha => Nat.ne_of_lt (R_hp.lt a ha)
           · exact fun a ha => Nat.ne_of_lt (R_hq.lt a ha)
           · exact Blk.new_at _ _ _ _ rfl
           · exact RP.alloc _
           · exact RQ.alloc _
           · exact HAP_h
           · exact H15.alloc z15 _)
        | (with_reducible refine ⟨w14.heap.size, A_h, c_h, B_h, d_h, rfl, rfl, ?_, ?_, ?_, ?_, ?_, ?_, ?_, ?_⟩
           · omega
           · exact (fun a ha => by have h0 := gP a ha; omega)
           · exact (fun a ha => by have h0 := gQ a ha; omega)
           · exact ((((((KB.set_ 0 _).set_ 1 _).set_ 2 _).set_ 3 _).set_ 4 _).set_ 5 _).set_ 6 _
           · exact row_far7 RP (fun a ha => by have h0 := gP a ha; omega) _ _ _ _ _ _ _
           · exact row_far7 RQ (fun a ha => by have h0 := gQ a ha; omega) _ _ _ _ _ _ _
           · exact HAP_h
           · exact below_far7 H15 (by omega) _ _ _ _ _ _ _)
        | (with_reducible refine ⟨w13.heap.size, A_h, c_h, B_h, d_h, rfl, rfl, ?_, ?_, ?_, ?_, ?_, ?_, ?_, ?_⟩
           · omega
           · exact (fun a ha => by have h0 := gP a ha; omega)
           · exact (fun a ha => by have h0 := gQ a ha; omega)
           · exact ((((((KB.set_ 0 _).set_ 1 _).set_ 2 _).set_ 3 _).set_ 4 _).set_ 5 _).set_ 6 _
           · exact row_far7 RP (fun a ha => by have h0 := gP a ha; omega) _ _ _ _ _ _ _
           · exact row_far7 RQ (fun a ha => by have h0 := gQ a ha; omega) _ _ _ _ _ _ _
           · exact HAP_h
           · exact below_far7 H15 (by omega) _ _ _ _ _ _ _)
        | (with_reducible refine ⟨w12.heap.size, A_h, c_h, B_h, d_h, rfl, rfl, ?_, ?_, ?_, ?_, ?_, ?_, ?_, ?_⟩
           · omega
           · exact (fun a ha => by have h0 := gP a ha; omega)
           · exact (fun a ha => by have h0 := gQ a ha; omega)
           · exact ((((((KB.set_ 0 _).set_ 1 _).set_ 2 _).set_ 3 _).set_ 4 _).set_ 5 _).set_ 6 _
           · exact row_far7 RP (fun a ha => by have h0 := gP a ha; omega) _ _ _ _ _ _ _
           · exact row_far7 RQ (fun a ha => by have h0 := gQ a ha; omega) _ _ _ _ _ _ _
           · exact HAP_h
           · exact below_far7 H15 (by omega) _ _ _ _ _ _ _)
  case rest =>
  obtain ⟨g_h, A_h, c_h, B_h, d_h, rfl, rfl, hg_h, HNP_h, HNQ_h, XB_h, R_hp, R_hq, HAP_h, b13⟩ := hcut
  rename World => w13
  clear lp0
  clear lp1
  have N_rp_Xh : ∀ a, A_r = some a → a.block < g_h := fun a ha => Nat.lt_of_lt_of_le (rp_12.lt a ha) hg_h
  have N_rq_Xh : ∀ a, B_r = some a → a.block < g_h := fun a ha => Nat.lt_of_lt_of_le (rq_12.lt a ha) hg_h
  have N_gp_Xh : ∀ a, A_g = some a → a.block < g_h := fun a ha => Nat.lt_of_lt_of_le (gp_12.lt a ha) hg_h
  have N_gq_Xh : ∀ a, B_g = some a → a.block < g_h := fun a ha => Nat.lt_of_lt_of_le (gq_12.lt a ha) hg_h
  have N_vp_Xh : ∀ a, A_v = some a → a.block < g_h := fun a ha => Nat.lt_of_lt_of_le (vp_12.lt a ha) hg_h
  have N_vq_Xh : ∀ a, B_v = some a → a.block < g_h := fun a ha => Nat.lt_of_lt_of_le (vq_12.lt a ha) hg_h
  have M_Xr_hp := Xr_12.lt
  have M_Xg_hp := Xg_12.lt
  have M_Xr_hq := Xr_12.lt
  have M_Xg_hq := Xg_12.lt
  have L_p0_hp := fun hn => p0_12.lt hn
  have L_q0_hp := fun hn => q0_12.lt hn
  have L_rp_hp := rp_12.lt
  have L_rq_hp := rq_12.lt
  have L_gp_hp := gp_12.lt
  have L_gq_hp := gq_12.lt
  have L_vp_hp := vp_12.lt
  have L_vq_hp := vq_12.lt
  have G_hp : W0.heap.size ≤ w12.heap.size := F_12.size
  have L_p0_hq := fun hn => p0_12.lt hn
  have L_q0_hq := fun hn => q0_12.lt hn
  have L_rp_hq := rp_12.lt
  have L_rq_hq := rq_12.lt
  have L_gp_hq := gp_12.lt
  have L_gq_hq := gq_12.lt
  have L_vp_hq := vp_12.lt
  have L_vq_hq := vq_12.lt
  have G_hq : W0.heap.size ≤ w12.heap.size := F_12.size
  have p0_13 := p0_12.below b13
  clear p0_12
  have q0_13 := q0_12.below b13
  clear q0_12
  have rp_13 := rp_12.below b13
  clear rp_12
  have rq_13 := rq_12.below b13
  clear rq_12
  have Xr_13 := Xr_12.below b13
  clear Xr_12
  have gp_13 := gp_12.below b13
  clear gp_12
  have gq_13 := gq_12.below b13
  clear gq_12
  have Xg_13 := Xg_12.below b13
  clear Xg_12
  have vp_13 := vp_12.below b13
  clear vp_12
  have vq_13 := vq_12.below b13
  clear vq_12
  have F_13 := bthen F_12 b13
  have hp_13 := R_hp
  clear R_hp
  have hq_13 := R_hq
  clear R_hq
  clear hcb hfb
  obtain ⟨hcb, hfb, _⟩ := bcell F_13
  have Xh_13 := XB_h
  clear XB_h
  have lt_Xh := Xh_13.lt
  have r_Xh0 := Xh_13.cell 0
  have r_Xh1 := Xh_13.cell 1
  have r_Xh2 := Xh_13.cell 2
  have r_Xh3 := Xh_13.cell 3
  have r_Xh4 := Xh_13.cell 4
  have r_Xh5 := Xh_13.cell 5
  have r_Xh6 := Xh_13.cell 6
  simp only [List.getElem?_toArray, List.getElem?_cons_zero, List.getElem?_cons_succ] at r_Xh0 r_Xh1 r_Xh2 r_Xh3 r_Xh4 r_Xh5 r_Xh6
  have lt_Xr := Xr_13.lt
  have r_Xr0 := Xr_13.cell 0
  have r_Xr1 := Xr_13.cell 1
  have r_Xr2 := Xr_13.cell 2
  have r_Xr3 := Xr_13.cell 3
  have r_Xr4 := Xr_13.cell 4
  have r_Xr5 := Xr_13.cell 5
  have r_Xr6 := Xr_13.cell 6
  simp only [List.getElem?_toArray, List.getElem?_cons_zero, List.getElem?_cons_succ] at r_Xr0 r_Xr1 r_Xr2 r_Xr3 r_Xr4 r_Xr5 r_Xr6
  go_wp2_with fail
  refine (eqState_same A_h A_r rn c_h c_r B_h B_r rm d_h d_r ri rt rh re ru _ _ _ hp_13.sl hq_13.sl rp_13.sl rq_13.sl hrnm hrmm).mono ?_
  rintro e w14 ⟨rfl, b14⟩
  have p0_14 := p0_13.below b14
  clear p0_13
  have q0_14 := q0_13.below b14
  clear q0_13
  have rp_14 := rp_13.below b14
  clear rp_13
  have rq_14 := rq_13.below b14
  clear rq_13
  have Xr_14 := Xr_13.below b14
  clear Xr_13
  have gp_14 := gp_13.below b14
  clear gp_13
  have gq_14 := gq_13.below b14
  clear gq_13
  have Xg_14 := Xg_13.below b14
  clear Xg_13
  have vp_14 := vp_13.below b14
  clear vp_13
  have vq_14 := vq_13.below b14
  clear vq_13
  have hp_14 := hp_13.below b14
  clear hp_13
  have hq_14 := hq_13.below b14
  clear hq_13
  have Xh_14 := Xh_13.below b14
  clear Xh_13
  have F_14 := bthen F_13 b14
  clear hcb hfb
  obtain ⟨hcb, hfb, _⟩ := bcell F_14
  clear lt_Xh r_Xh0 r_Xh1 r_Xh2 r_Xh3 r_Xh4 r_Xh5 r_Xh6
  clear lt_Xr r_Xr0 r_Xr1 r_Xr2 r_Xr3 r_Xr4 r_Xr5 r_Xr6
  have lt_Xg := Xg_14.lt
  have r_Xg0 := Xg_14.cell 0
  have r_Xg1 := Xg_14.cell 1
  have r_Xg2 := Xg_14.cell 2
  have r_Xg3 := Xg_14.cell 3
  have r_Xg4 := Xg_14.cell 4
  have r_Xg5 := Xg_14.cell 5
  have r_Xg6 := Xg_14.cell 6
  simp only [List.getElem?_toArray, List.getElem?_cons_zero, List.getElem?_cons_succ] at r_Xg0 r_Xg1 r_Xg2 r_Xg3 r_Xg4 r_Xg5 r_Xg6
  go_wp2_with fail
  refine (heldState_any A_g rn c_g B_g rm d_g ri rt rh re ru 1 _ gp_14.sl gq_14.sl hrn2 hrm2 (by omega) (by omega)).mono ?_
  rintro e w15 ⟨rfl, b15⟩
  have p0_15 := p0_14.below b15
  clear p0_14
  have q0_15 := q0_14.below b15
  clear q0_14
  have rp_15 := rp_14.below b15
  clear rp_14
  have rq_15 := rq_14.below b15
  clear rq_14
  have Xr_15 := Xr_14.below b15
  clear Xr_14
  have gp_15 := gp_14.below b15
  clear gp_14
  have gq_15 := gq_14.below b15
  clear gq_14
  have Xg_15 := Xg_14.below b15
  clear Xg_14
  have vp_15 := vp_14.below b15
  clear vp_14
  have vq_15 := vq_14.below b15
  clear vq_14
  have hp_15 := hp_14.below b15
  clear hp_14
  have hq_15 := hq_14.below b15
  clear hq_14
  have Xh_15 := Xh_14.below b15
  clear Xh_14
  have F_15 := bthen F_14 b15
  clear hcb hfb
  obtain ⟨hcb, hfb, _⟩ := bcell F_15
  clear lt_Xg r_Xg0 r_Xg1 r_Xg2 r_Xg3 r_Xg4 r_Xg5 r_Xg6
  go_wp2
  go_ret
  exact ⟨rfl, bstep F_15 B0 B0.size⟩
end Go.Proofs.YtokklkmibjpjnaaGreat
