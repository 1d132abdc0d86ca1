/- Part 3 of what the claim rests on: Lo8, Lo5, Lo9, LoD, LoE, LoM, LoF, LoH, LoG, LoI, Srow, LoS, LoU, LoJ. No condition of its own. -/
import Derived.Test.YtbheflinchabgaaGreatDoorBd2
import Derived.ChangeKeysEq
import Derived.Laws.Cover3
import Derived.Deep.AppendLies
import Derived.BigQuiet
import Derived.Deep.DeepCutAuto
import Derived.Maps.OwnSet
import Derived.Maps.Views
import Derived.Laws.Rows
import Derived.Laws.Tables
import Derived.Deep.MidRow
import Derived.Laws.ResultCell
import Derived.Deep.RegionHeld
namespace Go.Proofs.YtbheflinchabgaaGreatDoor
set_option linter.unusedSimpArgs false
set_option linter.unusedVariables false
attribute [local go_sem] n_lt2 n_lt3 n_lt4 n_le2 n_le3
open Go.RowKit
attribute [local go_sem] Ext.cell Ext.frozen
theorem info_DiskI : (Tryz.prog.info? 40).map (fun i => (i.zero, i.size, i.bytes)) = some (some (.agg #[.slice none 0 0, .slice none 0 0]), 2, 48) := by kernel_rfl
theorem idx2_0 (a b c d : Value) (w : World) : (Instr.index 173 (.agg #[a, b, c, d]) (.int .i64 0)).run Tryz.prog w = .ok (.agg #[a, b]) w := by
  obtain ⟨i0, hi0, hz0, hs0, hy0⟩ := info_parts info_DiskI
  have h2 : Tryz.prog.cellsOf 40 = 2 := by kernel_rfl
  simp [Instr.index, asIntOf, run_underlying Tryz.underlying173, part, isAgg, run_underlying Tryz.underlying40, run_sizeOf w hi0, h2, go_sem]
theorem idx2_1 (a b c d : Value) (w : World) : (Instr.index 173 (.agg #[a, b, c, d]) (.int .i64 1)).run Tryz.prog w = .ok (.agg #[c, d]) w := by
  obtain ⟨i0, hi0, hz0, hs0, hy0⟩ := info_parts info_DiskI
  have h2 : Tryz.prog.cellsOf 40 = 2 := by kernel_rfl
  simp [Instr.index, asIntOf, run_underlying Tryz.underlying173, part, isAgg, run_underlying Tryz.underlying40, run_sizeOf w hi0, h2, go_sem]
/-- What syncing, what a crash makes of rows with at most one waiting write. -/
def syncL (rows : List (List Int)) (ws : List (Int × List Int)) : List (List Int) := match ws with
  | [] => rows
  | x :: _ => rows.set x.1.toNat x.2
def FallW (rows : List (List Int)) (ws : List (Int × List Int)) (rows' : List (List Int)) : Prop := match ws with
  | [] => rows' = rows
  | x :: _ => FallR rows x.1.toNat x.2 rows'
theorem Dk.wl {w : World} {K W : Option Addr} {n m : Nat} {rows : List (List Int)} {ws : List (Int × List Int)} (h : Dk w K n W m rows ws) : ws.length = m := by
  obtain ⟨vs, _, h2, _⟩ := h.wt
  exact h2
theorem synced_any (K W : Option Addr) (n c d m : Nat) (rows : List (List Int)) (ws : List (Int × List Int)) (w : World) (h : Dk w K n W m rows ws) (hm : m ≤ 1) :
    Calls Tryz.prog 92 #[.agg #[.slice K n c, .slice W m d]] w (RetDk w n 0 (syncL rows ws) [] id) := by
  have hl := h.wl
  match ws, hl, h with
  | [], hl, h =>
    obtain rfl : m = 0 := by simpa using hl.symm
    exact synced_none K W n c d rows w h
  | [x], hl, h =>
    obtain rfl : m = 1 := by simpa using hl.symm
    have hx := h.x _ (List.mem_singleton.2 rfl)
    obtain ⟨x1, x2⟩ := x
    obtain ⟨a, rfl⟩ : ∃ a : Nat, x1 = (a : Int) := ⟨x1.toNat, by have := hx.1.1; simp only at this; omega⟩
    exact synced_one K W n c d rows a x2 w h
  | x :: y :: l, hl, h => simp at hl; omega
theorem fallen_any (K W F : Option Addr) (n c d m nf cf : Nat) (rows : List (List Int)) (ws : List (Int × List Int)) (fs : List Int) (w : World) (h : Dk w K n W m rows ws) (hm : m ≤ 1) (hF : Sl w 1 F nf fs) (hz : ∀ x ∈ ws, 0 < x.2.length ∧ (rows.getD x.1.toNat []).length ≤ x.2.length / 2) :
    Calls Tryz.prog 90 #[.agg #[.slice K n c, .slice W m d], .slice F nf cf] w (fun e w' => ∃ rows', FallW rows ws rows' ∧ RetDk w n 0 rows' [] id e w') := by
  have hl := h.wl
  match ws, hl, h, hz with
  | [], hl, h, _ =>
    obtain rfl : m = 0 := by simpa using hl.symm
    exact (fallen_none K W F n c d nf cf rows w h).mono fun e w' hr => ⟨rows, rfl, hr⟩
  | [x], hl, h, hz =>
    obtain rfl : m = 1 := by simpa using hl.symm
    have hx := h.x _ (List.mem_singleton.2 rfl)
    have hz2 := hz _ (List.mem_singleton.2 rfl)
    obtain ⟨x1, x2⟩ := x
    obtain ⟨a, rfl⟩ : ∃ a : Nat, x1 = (a : Int) := ⟨x1.toNat, by have := hx.1.1; simp only at this; omega⟩
    exact fallen_one K W F n c d nf cf rows a x2 fs w h hF hz2.1 (by simpa using hz2.2)
  | x :: y :: l, hl, h, _ => simp at hl; omega
/-- What a function of mirrored disks hands back. -/
def RetTw (w : World) (ma mb : Nat) (ra : List (List Int)) (wa : List (Int × List Int)) (rb : List (List Int)) (wb : List (Int × List Int)) (wrap : Value → Value) (e : Ending) (w' : World) : Prop :=
  ∃ KA cA WA dA KB cB WB dB, e = .returned (wrap (.agg #[.slice KA 22 cA, .slice WA ma dA, .slice KB 22 cB, .slice WB mb dB])) ∧ On (Rg w.heap.size w'.heap.size) (fun x => Dk x KA 22 WA ma ra wa ∧ Dk x KB 22 WB mb rb wb) w' ∧ Below w.heap.size w w'
theorem RetDisk0.dk {w w' : World} {e : Ending} (h : RetDisk0 w e w') : ∃ K c, e = .returned (.agg #[.slice K 22 c, .slice none 0 0]) ∧ On (Rg w.heap.size w'.heap.size) (fun x => Dk x K 22 none 0 (List.replicate 22 []) []) w' ∧ Below w.heap.size w w' := by
  obtain ⟨A, c, vs, rfl, hR, hs, ha, hb, hl⟩ := h
  have hO : OwnK w' w.heap.size 59 A 22 c (List.replicate 22 []) vs := ⟨hR, hs, ha, hl⟩
  exact ⟨A, c, rfl, hO.on.map (fun v hv => hv.dk (by decide) (fun r hr => by rw [List.eq_of_mem_replicate hr]; exact ⟨by decide, fun x hx => by cases hx⟩) none), hb⟩
/-- A set of blocks of the call's own that holds neither of two boxes. -/
structure Sane (w wr : World) (T : Nat → Prop) (g h : Nat) : Prop where
  a : ¬ T g
  b : ¬ T h
  r : ∀ k, T k → w.heap.size ≤ k ∧ k < wr.heap.size
theorem Sane.rg {w wr : World} {a b g h : Nat} (h1 : w.heap.size ≤ a) (h2 : b ≤ wr.heap.size) (h3 : g < a ∨ b ≤ g) (h4 : h < a ∨ b ≤ h) : Sane w wr (Rg a b) g h := ⟨Rg.no h3, Rg.no h4, fun k hk => ⟨Nat.le_trans h1 hk.1, Nat.lt_of_lt_of_le hk.2 h2⟩⟩
theorem Sane.or {w wr : World} {T S : Nat → Prop} {g h : Nat} (h1 : Sane w wr T g h) (h2 : Sane w wr S g h) : Sane w wr (fun k => T k ∨ S k) g h :=
  ⟨fun hk => hk.elim h1.a h2.a, fun hk => hk.elim h1.b h2.b, fun k hk => hk.elim (h1.r k) (h2.r k)⟩
theorem Sane.mono {w wr wr' : World} {T : Nat → Prop} {g h : Nat} (h1 : Sane w wr T g h) (hs : wr.heap.size ≤ wr'.heap.size) : Sane w wr' T g h := ⟨h1.a, h1.b, fun k hk => ⟨(h1.r k hk).1, Nat.lt_of_lt_of_le (h1.r k hk).2 hs⟩⟩
theorem On.or {S T : Nat → Prop} {P Q : World → Prop} {w : World} (h : On S P w) (k : On T Q w) : On (fun b => S b ∨ T b) (fun x => P x ∧ Q x) w := (h.sub (fun _ hk => .inl hk)).and (k.sub (fun _ hk => .inr hk))
set_option maxRecDepth 100000 in
set_option maxHeartbeats 2000000 in
theorem newTwo_22 (w : World) : Calls Tryz.prog 50 #[.int .i64 22] w (RetTw w 0 0 (List.replicate 22 []) [] (List.replicate 22 []) [] id) := by
  go_enter Tryz.func50, Tryz.ntmps50
  go_wp2_with fail
  refine calls_named ?_
  rintro v0 hv0
  have f0 : Below w.heap.size w v0 := by rw [hv0]; (repeat' (first | (with_reducible exact Below.refl _ _) | (with_reducible assumption) | (with_reducible refine Below.alloc ?_ ?_ _) | (with_reducible refine Below.drew ?_) | (with_reducible refine Below.setCell ?_ ?_ _) | (with_reducible refine bstep (by assumption) ?_ ?_) | (with_reducible exact Nat.le_refl _) | omega | (simp [*]; done) | (simp [*]; omega)))
  have z0 : w.heap.size + 1 ≤ v0.heap.size := by rw [hv0]; simp [size_set]
  have HR_0 : Hid (Blk v0 w.heap.size 42 #[.slice none 0 0, .slice none 0 0, .slice none 0 0, .slice none 0 0]) := by rw [hv0]; exact Lib.hid ((Blk.new_at _ _ _ _ (by simp [size_set])))
  clear hv0
  obtain ⟨gR, hgR⟩ : ∃ q, q = w.heap.size := ⟨_, rfl⟩
  rw [← hgR] at HR_0
  try rw [← hgR]
  have lgR : w.heap.size ≤ gR := by omega
  have mgR : gR < v0.heap.size := by omega
  have ngR : ∀ k, w.heap.size ≤ k → k ≠ gR → True := fun _ _ _ => trivial
  clear ngR
  clear hgR
  refine (newDisk_22 v0).mono ?_
  rintro e v1 hq
  obtain ⟨KA, cA, rfl, hO, b1⟩ := hq.dk
  clear hq
  have f1 := bthen f0 b1
  have z1 := b1.size
  have HR_1 := Lib.hid (HR_0.out.below b1)
  clear HR_0
  have HA_1 := Lib.hid (show On (Rg v0.heap.size v1.heap.size) (fun x => Dk x KA 22 none 0 (List.replicate 22 []) []) v1 from hO)
  clear hO
  go_wp2_with fail
  refine (newDisk_22 v1).mono ?_
  rintro e v2 hq
  obtain ⟨KB, cB, rfl, hO, b2⟩ := hq.dk
  clear hq
  have f2 := bthen f1 b2
  have z2 := b2.size
  have HR_2 := Lib.hid (HR_1.out.below b2)
  have HA_2 := Lib.hid (HA_1.out.below b2)
  clear HR_1 HA_1
  have HC_2 := Lib.hid (show On (Rg v1.heap.size v2.heap.size) (fun x => Dk x KB 22 none 0 (List.replicate 22 []) []) v2 from hO)
  clear hO
  have lt_R := HR_2.out.lt
  obtain ⟨r_R0, r_R1, r_R2, r_R3⟩ := bc4 HR_2.out
  obtain ⟨z_R0, z_R1, z_R2, z_R3⟩ := bf4 HR_2.out
  go_wp21
  refine bodyPost_ret (v := .agg #[.slice KA 22 cA, .slice none 0 0, .slice KB 22 cB, .slice none 0 0]) (by simp [results, Tryz.results50, go_sem, *]) rfl ?_
  exact ⟨KA, cA, none, 0, KB, cB, none, 0, rfl, ((((((HA_2.out).far (g := gR) (Rg.no (by omega)) 0 _).far (g := gR) (Rg.no (by omega)) 1 _).far (g := gR) (Rg.no (by omega)) 2 _).far (g := gR) (Rg.no (by omega)) 3 _).sub (Rg.sub (by omega) (by simp only [size_set]; omega))).and ((((((HC_2.out).far (g := gR) (Rg.no (by omega)) 0 _).far (g := gR) (Rg.no (by omega)) 1 _).far (g := gR) (Rg.no (by omega)) 2 _).far (g := gR) (Rg.no (by omega)) 3 _).sub (Rg.sub (by omega) (by simp only [size_set]; omega))), ((((f2).setCell (p := ⟨gR, 0, none⟩) (show w.heap.size ≤ gR by omega) _).setCell (p := ⟨gR, 1, none⟩) (show w.heap.size ≤ gR by omega) _).setCell (p := ⟨gR, 2, none⟩) (show w.heap.size ≤ gR by omega) _).setCell (p := ⟨gR, 3, none⟩) (show w.heap.size ≤ gR by omega) _⟩
set_option maxRecDepth 100000 in
set_option maxHeartbeats 4000000 in
theorem bothSynced_any (KA WA KB WB : Option Addr) (cA dA cB dB ma mb : Nat) (ra rb : List (List Int)) (wa wb : List (Int × List Int)) (w : World) (hA : Dk w KA 22 WA ma ra wa) (hB : Dk w KB 22 WB mb rb wb) (ha : ma ≤ 1) (hb : mb ≤ 1) :
    Calls Tryz.prog 40 #[.agg #[.slice KA 22 cA, .slice WA ma dA, .slice KB 22 cB, .slice WB mb dB]] w (RetTw w 0 0 (syncL ra wa) [] (syncL rb wb) [] id) := by
  have HIA : Hid (On (Rg 0 w.heap.size) (fun x => Dk x KA 22 WA ma ra wa) w) := Lib.hid (On.below_of (fun _ hb => (hA).below hb))
  clear hA
  have HIB : Hid (On (Rg 0 w.heap.size) (fun x => Dk x KB 22 WB mb rb wb) w) := Lib.hid (On.below_of (fun _ hb => (hB).below hb))
  clear hB
  go_enter Tryz.func40, Tryz.ntmps40
  go_wp2_with fail
  refine calls_named ?_
  rintro v0 hv0
  have f0 : Below w.heap.size w v0 := by rw [hv0]; (repeat' (first | (with_reducible exact Below.refl _ _) | (with_reducible assumption) | (with_reducible refine Below.alloc ?_ ?_ _) | (with_reducible refine Below.drew ?_) | (with_reducible refine Below.setCell ?_ ?_ _) | (with_reducible refine bstep (by assumption) ?_ ?_) | (with_reducible exact Nat.le_refl _) | omega | (simp [*]; done) | (simp [*]; omega)))
  have z0 : w.heap.size + 2 ≤ v0.heap.size := by rw [hv0]; simp [size_set]
  have HT_0 : Hid (Blk v0 w.heap.size 42 #[.slice KA 22 cA, .slice WA ma dA, .slice KB 22 cB, .slice WB mb dB]) := by rw [hv0]; exact Lib.hid (((Blk.new_at _ _ _ _ (by simp [size_set]))).alloc _)
  have HR_0 : Hid (Blk v0 (w.heap.size + 1) 42 #[.slice none 0 0, .slice none 0 0, .slice none 0 0, .slice none 0 0]) := by rw [hv0]; exact Lib.hid ((Blk.new_at _ _ _ _ (by simp [size_set])))
  clear hv0
  obtain ⟨gR, hgR⟩ : ∃ q, q = w.heap.size + 1 := ⟨_, rfl⟩
  rw [← hgR] at HR_0
  try rw [← hgR]
  have lgR : w.heap.size ≤ gR := by omega
  have mgR : gR < v0.heap.size := by omega
  have ngR : ∀ k, w.heap.size ≤ k → k ≠ gR → True := fun _ _ _ => trivial
  clear ngR
  obtain ⟨gT, hgT⟩ : ∃ q, q = w.heap.size := ⟨_, rfl⟩
  rw [← hgT] at HT_0
  try rw [← hgT]
  have lgT : w.heap.size ≤ gT := by omega
  have mgT : gT < v0.heap.size := by omega
  have ngT : ∀ k, w.heap.size ≤ k → k ≠ gT → True := fun _ _ _ => trivial
  clear ngT
  have nnTR : gT < gR := by omega
  clear hgT
  clear hgR
  refine (twoOk_yes KA WA KB WB 22 cA ma dA cB mb dB ra rb wa wb v0 ((HIA.out).inB f0 (fun _ hk => hk.2)).out ((HIB.out).inB f0 (fun _ hk => hk.2)).out).mono ?_
  rintro e v1 ⟨rfl, b1⟩
  have f1 := bthen f0 b1
  have z1 := b1.size
  have HT_1 := Lib.hid (HT_0.out.below b1)
  have HR_1 := Lib.hid (HR_0.out.below b1)
  clear HT_0 HR_0
  have lt_T := HT_1.out.lt
  obtain ⟨r_T0, r_T1, r_T2, r_T3⟩ := bc4 HT_1.out
  go_wp2_with fail
  refine (disks_any KA WA KB WB 22 ma 22 mb cA dA cB dB v1).mono ?_
  rintro e v2 ⟨rfl, b2⟩
  have f2 := bthen f1 b2
  have z2 := b2.size
  have HT_2 := Lib.hid (HT_1.out.below b2)
  have HR_2 := Lib.hid (HR_1.out.below b2)
  clear lt_T r_T0 r_T1 r_T2 r_T3
  clear HT_1 HR_1
  go_upto_region 4 with fail
  obtain ⟨v3, hv3⟩ : ∃ x : World, x = (v2.alloc (.cells #[.slice KA 22 cA, .slice WA ma dA, .slice KB 22 cB, .slice WB mb dB] 173)) := ⟨_, rfl⟩
  rw [← hv3]
  have f3 : Below w.heap.size w v3 := by rw [hv3]; (repeat' (first | (with_reducible exact Below.refl _ _) | (with_reducible assumption) | (with_reducible refine Below.alloc ?_ ?_ _) | (with_reducible refine Below.drew ?_) | (with_reducible refine Below.setCell ?_ ?_ _) | (with_reducible refine bstep (by assumption) ?_ ?_) | (with_reducible exact Nat.le_refl _) | omega | (simp [*]; done) | (simp [*]; omega)))
  have z3 : v2.heap.size + 1 ≤ v3.heap.size := by rw [hv3]; simp [size_set]
  have HT_3 : Hid (Blk v3 gT 42 #[.slice KA 22 cA, .slice WA ma dA, .slice KB 22 cB, .slice WB mb dB]) := by rw [hv3]; exact Lib.hid ((HT_2.out).alloc _)
  have HR_3 : Hid (Blk v3 gR 42 #[.slice none 0 0, .slice none 0 0, .slice none 0 0, .slice none 0 0]) := by rw [hv3]; exact Lib.hid ((HR_2.out).alloc _)
  have HU_3 : Hid (Blk v3 v2.heap.size 173 #[.slice KA 22 cA, .slice WA ma dA, .slice KB 22 cB, .slice WB mb dB]) := by rw [hv3]; exact Lib.hid ((Blk.new_at _ _ _ _ (by simp [size_set])))
  clear hv3 HT_2 HR_2
  obtain ⟨gU, hgU⟩ : ∃ q, q = v2.heap.size := ⟨_, rfl⟩
  rw [← hgU] at HU_3
  try rw [← hgU]
  have lgU : v2.heap.size ≤ gU := by omega
  have mgU : gU < v3.heap.size := by omega
  have ngU : ∀ k, v2.heap.size ≤ k → k ≠ gU → True := fun _ _ _ => trivial
  clear ngU
  clear hgU
  have lt_U := HU_3.out.lt
  obtain ⟨r_U0, r_U1, r_U2, r_U3⟩ := bc4 HU_3.out
  go_wp2_with fail
  clear lt_U r_U0 r_U1 r_U2 r_U3
  go_loopw [13] (fun iv wr => (iv = .int .i64 0 ∧ v3 = wr) ∨ (iv = .int .i64 1 ∧ ∃ K1 c1 W1 d1 T, Hid (Blk wr gU 173 #[.slice K1 22 c1, .slice W1 0 d1, .slice KB 22 cB, .slice WB mb dB]) ∧ Hid (Blk wr gR 42 #[.slice none 0 0, .slice none 0 0, .slice none 0 0, .slice none 0 0]) ∧ Hid (On T (fun x => Dk x K1 22 W1 0 (syncL ra wa) []) wr) ∧ Hid (Sane w wr T gU gR) ∧ Hid (Below w.heap.size w wr) ∧ v3.heap.size ≤ wr.heap.size) ∨
        (iv = .int .i64 2 ∧ ∃ K1 c1 W1 d1 K2 c2 W2 d2 T, Hid (Blk wr gU 173 #[.slice K1 22 c1, .slice W1 0 d1, .slice K2 22 c2, .slice W2 0 d2]) ∧ Hid (Blk wr gR 42 #[.slice none 0 0, .slice none 0 0, .slice none 0 0, .slice none 0 0]) ∧ Hid (On T (fun x => Dk x K1 22 W1 0 (syncL ra wa) [] ∧ Dk x K2 22 W2 0 (syncL rb wb) []) wr) ∧ Hid (Sane w wr T gU gR) ∧ Hid (Below w.heap.size w wr) ∧ v3.heap.size ≤ wr.heap.size)) (fun iv _ => 2 - (intOf iv).toNat)
  case atStart => exact .inl ⟨rfl, rfl⟩
  case round =>
    rcases hrel with ⟨rfl, rfl⟩ | ⟨rfl, K1, c1, W1, d1, T, HU, HR, HO, HS, HF, hsz⟩ | ⟨rfl, K1, c1, W1, d1, K2, c2, W2, d2, T, HU, HR, HO, HS, HF, hsz⟩
    · have lt_U := HU_3.out.lt
      obtain ⟨r_U0, r_U1, r_U2, r_U3⟩ := bc4 HU_3.out
      have hidx := fun W : World => idx2_0 (.slice KA 22 cA) (.slice WA ma dA) (.slice KB 22 cB) (.slice WB mb dB) W
      go_wp2_with fail
      refine calls_named ?_
      rintro v4 hv4
      have f4 : Below w.heap.size w v4 := by rw [hv4]; (repeat' (first | (with_reducible exact Below.refl _ _) | (with_reducible assumption) | (with_reducible refine Below.alloc ?_ ?_ _) | (with_reducible refine Below.drew ?_) | (with_reducible refine Below.setCell ?_ ?_ _) | (with_reducible refine bstep (by assumption) ?_ ?_) | (with_reducible exact Nat.le_refl _) | omega | (simp [*]; done) | (simp [*]; omega)))
      have z4 : v3.heap.size + 1 ≤ v4.heap.size := by rw [hv4]; simp [size_set]
      have HT_4 : Hid (Blk v4 gT 42 #[.slice KA 22 cA, .slice WA ma dA, .slice KB 22 cB, .slice WB mb dB]) := by rw [hv4]; exact Lib.hid ((HT_3.out).alloc _)
      have HR_4 : Hid (Blk v4 gR 42 #[.slice none 0 0, .slice none 0 0, .slice none 0 0, .slice none 0 0]) := by rw [hv4]; exact Lib.hid ((HR_3.out).alloc _)
      have HU_4 : Hid (Blk v4 gU 173 #[.slice KA 22 cA, .slice WA ma dA, .slice KB 22 cB, .slice WB mb dB]) := by rw [hv4]; exact Lib.hid ((HU_3.out).alloc _)
      have HD_4 : Hid (Blk v4 v3.heap.size 40 #[.slice KA 22 cA, .slice WA ma dA]) := by rw [hv4]; exact Lib.hid ((Blk.new_at _ _ _ _ (by simp [size_set])))
      clear lt_U r_U0 r_U1 r_U2 r_U3
      clear hv4 HT_3 HR_3 HU_3
      obtain ⟨gD, hgD⟩ : ∃ q, q = v3.heap.size := ⟨_, rfl⟩
      rw [← hgD] at HD_4
      try rw [← hgD]
      have lgD : v3.heap.size ≤ gD := by omega
      have mgD : gD < v4.heap.size := by omega
      have ngD : ∀ k, v3.heap.size ≤ k → k ≠ gD → True := fun _ _ _ => trivial
      clear ngD
      clear hgD
      clear hidx
      refine (synced_any KA WA 22 cA dA ma ra wa v4 ((HIA.out).inB f4 (fun _ hk => hk.2)).out ha).mono ?_
      rintro e v5 ⟨K1, c1, W1, d1, rfl, hO, b5⟩
      have f5 := bthen f4 b5
      have z5 := b5.size
      have HT_5 := Lib.hid (HT_4.out.below b5)
      have HR_5 := Lib.hid (HR_4.out.below b5)
      have HU_5 := Lib.hid (HU_4.out.below b5)
      have HD_5 := Lib.hid (HD_4.out.below b5)
      clear HT_4 HR_4 HU_4 HD_4
      have HN_5 := Lib.hid (show On (Rg v4.heap.size v5.heap.size) (fun x => Dk x K1 22 W1 0 (syncL ra wa) []) v5 from hO)
      clear hO
      have lt_U := HU_5.out.lt
      obtain ⟨r_U0, r_U1, r_U2, r_U3⟩ := bc4 HU_5.out
      have z_U0 := HU_5.out.frozen 0
      have z_U1 := HU_5.out.frozen 1
      go_wp2_with fail
      exact ⟨.inr (.inl ⟨rfl, K1, c1, W1, d1, Rg v4.heap.size v5.heap.size, Lib.hid (((HU_5.out).set_ 0 _).set_ 1 _), Lib.hid (((HR_5.out).far (p := ⟨gU, 0, none⟩) (show gR ≠ gU by omega) _).far (p := ⟨gU, 1, none⟩) (show gR ≠ gU by omega) _), Lib.hid (((HN_5.out).far (g := gU) (Rg.no (by omega)) 0 _).far (g := gU) (Rg.no (by omega)) 1 _), Lib.hid (Sane.rg (by omega) (by simp only [size_set]; omega) (by omega) (by omega)), Lib.hid (((f5).setCell (p := ⟨gU, 0, none⟩) (show w.heap.size ≤ gU by omega) _).setCell (p := ⟨gU, 1, none⟩) (show w.heap.size ≤ gU by omega) _), by simp only [size_set]; omega⟩), by simp [intOf]⟩
    · have f4 := HF.out
      have z4 : v3.heap.size ≤ wr.heap.size := hsz
      obtain ⟨v4, hv4⟩ : ∃ x, x = wr := ⟨_, rfl⟩
      rw [← hv4] at HU HR HO HS f4 z4 ⊢
      clear hv4 HF hsz
      have HU_4 := HU
      have HR_4 := HR
      have HN_4 : Hid (On T (fun x => Dk x K1 22 W1 0 (syncL ra wa) []) v4) := HO
      clear HU HR HO
      have lt_U := HU_4.out.lt
      obtain ⟨r_U0, r_U1, r_U2, r_U3⟩ := bc4 HU_4.out
      have hidx := fun W : World => idx2_1 (.slice KA 22 cA) (.slice WA ma dA) (.slice KB 22 cB) (.slice WB mb dB) W
      go_wp2_with fail
      refine calls_named ?_
      rintro v5 hv5
      have f5 : Below w.heap.size w v5 := by rw [hv5]; (repeat' (first | (with_reducible exact Below.refl _ _) | (with_reducible assumption) | (with_reducible refine Below.alloc ?_ ?_ _) | (with_reducible refine Below.drew ?_) | (with_reducible refine Below.setCell ?_ ?_ _) | (with_reducible refine bstep (by assumption) ?_ ?_) | (with_reducible exact Nat.le_refl _) | omega | (simp [*]; done) | (simp [*]; omega)))
      have z5 : v4.heap.size + 1 ≤ v5.heap.size := by rw [hv5]; simp [size_set]
      have HU_5 : Hid (Blk v5 gU 173 #[.slice K1 22 c1, .slice W1 0 d1, .slice KB 22 cB, .slice WB mb dB]) := by rw [hv5]; exact Lib.hid ((HU_4.out).alloc _)
      have HR_5 : Hid (Blk v5 gR 42 #[.slice none 0 0, .slice none 0 0, .slice none 0 0, .slice none 0 0]) := by rw [hv5]; exact Lib.hid ((HR_4.out).alloc _)
      have HN_5 : Hid (On T (fun x => Dk x K1 22 W1 0 (syncL ra wa) []) v5) := by rw [hv5]; exact Lib.hid ((HN_4.out).alloc _)
      have HD_5 : Hid (Blk v5 v4.heap.size 40 #[.slice KB 22 cB, .slice WB mb dB]) := by rw [hv5]; exact Lib.hid ((Blk.new_at _ _ _ _ (by simp [size_set])))
      clear lt_U r_U0 r_U1 r_U2 r_U3
      clear hv5 HU_4 HR_4 HN_4
      obtain ⟨gD, hgD⟩ : ∃ q, q = v4.heap.size := ⟨_, rfl⟩
      rw [← hgD] at HD_5
      try rw [← hgD]
      have lgD : v4.heap.size ≤ gD := by omega
      have mgD : gD < v5.heap.size := by omega
      have ngD : ∀ k, v4.heap.size ≤ k → k ≠ gD → True := fun _ _ _ => trivial
      clear ngD
      clear hgD
      clear hidx
      refine (synced_any KB WB 22 cB dB mb rb wb v5 ((HIB.out).inB f5 (fun _ hk => hk.2)).out hb).mono ?_
      rintro e v6 ⟨K2, c2, W2, d2, rfl, hO, b6⟩
      have f6 := bthen f5 b6
      have z6 := b6.size
      have HU_6 := Lib.hid (HU_5.out.below b6)
      have HR_6 := Lib.hid (HR_5.out.below b6)
      have HN_6 := Lib.hid (HN_5.out.below b6)
      have HD_6 := Lib.hid (HD_5.out.below b6)
      clear HU_5 HR_5 HN_5 HD_5
      have HM_6 := Lib.hid (show On (Rg v5.heap.size v6.heap.size) (fun x => Dk x K2 22 W2 0 (syncL rb wb) []) v6 from hO)
      clear hO
      have lt_U := HU_6.out.lt
      obtain ⟨r_U0, r_U1, r_U2, r_U3⟩ := bc4 HU_6.out
      have z_U2 := HU_6.out.frozen 2
      have z_U3 := HU_6.out.frozen 3
      go_wp2_with fail
      exact ⟨.inr (.inr ⟨rfl, K1, c1, W1, d1, K2, c2, W2, d2, _, Lib.hid (((HU_6.out).set_ 2 _).set_ 3 _), Lib.hid (((HR_6.out).far (p := ⟨gU, 2, none⟩) (show gR ≠ gU by omega) _).far (p := ⟨gU, 3, none⟩) (show gR ≠ gU by omega) _), Lib.hid ((((HN_6.out).far (g := gU) HS.out.a 2 _).far (g := gU) HS.out.a 3 _).or (((HM_6.out).far (g := gU) (Rg.no (by omega)) 2 _).far (g := gU) (Rg.no (by omega)) 3 _)), Lib.hid ((HS.out.mono (by simp only [size_set]; omega)).or (Sane.rg (by omega) (by simp only [size_set]; omega) (by omega) (by omega))), Lib.hid (((f6).setCell (p := ⟨gU, 2, none⟩) (show w.heap.size ≤ gU by omega) _).setCell (p := ⟨gU, 3, none⟩) (show w.heap.size ≤ gU by omega) _), by simp only [size_set]; omega⟩), by simp [intOf]⟩
    · have f4 := HF.out
      have z4 : v3.heap.size ≤ wr.heap.size := hsz
      obtain ⟨v4, hv4⟩ : ∃ x, x = wr := ⟨_, rfl⟩
      rw [← hv4] at HU HR HO HS f4 z4 ⊢
      clear hv4 HF hsz
      have HU_4 := HU
      have HR_4 := HR
      clear HU HR
      have lt_U := HU_4.out.lt
      obtain ⟨r_U0, r_U1, r_U2, r_U3⟩ := bc4 HU_4.out
      go_wp2_with fail
      refine (twoOf_any K1 W1 K2 W2 22 0 22 0 c1 d1 c2 d2 v4).mono ?_
      rintro e v5 ⟨rfl, b5⟩
      have HO5 := Lib.hid (HO.out.below b5)
      have f5 := bthen f4 b5
      have z5 := b5.size
      have HU_5 := Lib.hid (HU_4.out.below b5)
      have HR_5 := Lib.hid (HR_4.out.below b5)
      clear lt_U r_U0 r_U1 r_U2 r_U3
      clear HU_4 HR_4
      have lt_R := HR_5.out.lt
      obtain ⟨r_R0, r_R1, r_R2, r_R3⟩ := bc4 HR_5.out
      obtain ⟨z_R0, z_R1, z_R2, z_R3⟩ := bf4 HR_5.out
      go_wp21
      refine bodyPost_ret (v := .agg #[.slice K1 22 c1, .slice W1 0 d1, .slice K2 22 c2, .slice W2 0 d2]) (by simp [results, Tryz.results40, go_sem, *]) rfl ?_
      exact ⟨K1, c1, W1, d1, K2, c2, W2, d2, rfl, (((((HO5.out.far HS.out.b 0 _).far HS.out.b 1 _).far HS.out.b 2 _).far HS.out.b 3 _).sub (fun k hk => ⟨(HS.out.r k hk).1, by have := (HS.out.r k hk).2; simp only [size_set]; omega⟩)), ((((f5).setCell (p := ⟨gR, 0, none⟩) (show w.heap.size ≤ gR by omega) _).setCell (p := ⟨gR, 1, none⟩) (show w.heap.size ≤ gR by omega) _).setCell (p := ⟨gR, 2, none⟩) (show w.heap.size ≤ gR by omega) _).setCell (p := ⟨gR, 3, none⟩) (show w.heap.size ≤ gR by omega) _⟩
end Go.Proofs.YtbheflinchabgaaGreatDoor
namespace Go.Proofs.YtbheflinchabgaaGreatDoor
set_option linter.unusedSimpArgs false
set_option linter.unusedVariables false
attribute [local go_sem] n_lt2 n_lt3 n_lt4 n_le2 n_le3
open Go.RowKit
attribute [local go_sem] Ext.cell Ext.frozen
theorem wr_end {w v3 v4 w5 : World} {lo hi gU gR g c5 n c' c4 m : Nat} {K' A4 : Option Addr} {rows : List (List Int)} {vs : List Value} {at_ : Int} {zs : List Int}
    (HR : Hid (Blk v3 gR 40 #[.slice none 0 0, .slice none 0 0])) (HO : Hid (On (Rg lo hi) (fun x => OwnK x lo 59 K' n c' rows vs) v3)) (HU : Hid (Blk v3 gU 40 #[.slice K' n c', .slice none 0 0]))
    (f3 : Below w.heap.size w v3) (E4 : Below v3.heap.size v3 v4) (E5 : Below v4.heap.size v4 w5) (R4 : Row v4 v3.heap.size 2 1 A4 m c4 zs)
    (hown : w5.ownsRow v4.heap.size 216 2 (.slice (some ⟨g, 0, none⟩) (0 + 1) c5) (0 + 1) ([] ++ [.int .i64 at_, .slice A4 m c4])) (hgU : gU < v3.heap.size) (hgR : gR < v3.heap.size) (hne : gR ≠ gU) (hlo : gU < lo ∨ hi ≤ gU) (hlo2 : gR < lo ∨ hi ≤ gR) (hw : w.heap.size ≤ gU) (hw2 : w.heap.size ≤ gR) (hlw : w.heap.size ≤ lo)
    (hn : 1 ≤ n ∧ n ≤ 40) (hr : rowsL rows) (ha : 0 ≤ at_ ∧ at_ < n) (hz : rowL zs) (hhi : hi ≤ v3.heap.size) (w6 : World) (h6 : w6 = ((w5.setCell ⟨gU, 1, none⟩ (.slice (some ⟨g, 0, none⟩) 1 c5)).setCell ⟨gR, 0, none⟩ (.slice K' n c')).setCell ⟨gR, 1, none⟩ (.slice (some ⟨g, 0, none⟩) 1 c5)) :
    On (Rg w.heap.size w6.heap.size) (fun x => Dk x K' n (some ⟨g, 0, none⟩) 1 rows [(at_, zs)]) w6 ∧ Below w.heap.size w w6 := by
  have z4 := E4.size
  have z5 := E5.size
  have z6 : w6.heap.size = w5.heap.size := by rw [h6]; simp [size_set]
  have hW : OwnW w5 v3.heap.size 216 (some ⟨g, 0, none⟩) c5 at_ (.slice A4 m c4) zs :=
    ⟨RowV.mono (show RowV w5 v4.heap.size 216 2 (some ⟨g, 0, none⟩) 1 c5 [.int .i64 at_, .slice A4 m c4] from hown) z4, (Rw.of_row R4).below E5, fun A n c he a ha => by
      injection he with h1
      rw [← h1] at ha
      exact R4.ge a ha⟩
  have hO := (((((HO.out.below E4).below E5).far (Rg.no hlo) 1 (.slice (some ⟨g, 0, none⟩) 1 c5)).far (Rg.no hlo2) 0 (.slice K' n c')).far (Rg.no hlo2) 1 (.slice (some ⟨g, 0, none⟩) 1 c5))
  have hW2 := (((hW.on.far (Rg.no (.inl hgU)) 1 (.slice (some ⟨g, 0, none⟩) 1 c5)).far (Rg.no (.inl hgR)) 0 (.slice K' n c')).far (Rg.no (.inl hgR)) 1 (.slice (some ⟨g, 0, none⟩) 1 c5))
  rw [← h6] at hO hW2
  refine ⟨((hO.sub (Rg.sub (d := w6.heap.size) hlw (by omega))).and (hW2.sub (Rg.sub (by have := f3.size; omega) (by omega)))).map (fun v hv => hv.1.dk1 hv.2 hn hr ha hz), ?_⟩
  rw [h6]
  exact (((bthen (bthen f3 E4) E5).setCell (p := ⟨gU, 1, none⟩) hw _).setCell (p := ⟨gR, 0, none⟩) hw2 _).setCell (p := ⟨gR, 1, none⟩) hw2 _
set_option maxRecDepth 100000 in
set_option maxHeartbeats 4000000 in
theorem wrote_none (K W A : Option Addr) (n c d m cx : Nat) (rows : List (List Int)) (at_ : Int) (zs : List Int) (w : World) (h : Dk w K n W 0 rows []) (hA : Rw w (.slice A m cx) zs) (ha : 0 ≤ at_ ∧ at_ < n) (hz : rowL zs) :
    Calls Tryz.prog 123 #[.agg #[.slice K n c, .slice W 0 d], .int .i64 at_, .slice A m cx] w (RetDk w n 1 rows [(at_, zs)] (fun x => .tuple #[x, .bool true])) := by
  have hn := h.hn
  have HR := Lib.hid h.r
  obtain ⟨A', cx', hv, hSx, hx1, hx2, hx3, hx4⟩ := hA
  injection hv with e1 e2 e3
  subst e1 e2 e3
  generalize hzl : zs.length = m at *
  have hm : m ≤ 48 := by have := hz.1; omega
  have HZ := Lib.hid hz
  clear hx4 hz
  have HID : Hid (On (Rg 0 w.heap.size) (fun x => Dk x K n W 0 rows []) w) := Lib.hid (On.below_of (fun _ hb => (h).below hb))
  clear h
  have HIX : Hid (On (Rg 0 w.heap.size) (fun x => Sl x 1 A m zs) w) := Lib.hid (On.below_of (fun _ hb => (hSx).below hb))
  clear hSx
  go_enter Tryz.func123, Tryz.ntmps123
  go_wp2_with fail
  refine calls_named ?_
  rintro v0 hv0
  have f0 : Below w.heap.size w v0 := by rw [hv0]; (repeat' (first | (with_reducible exact Below.refl _ _) | (with_reducible assumption) | (with_reducible refine Below.alloc ?_ ?_ _) | (with_reducible refine Below.drew ?_) | (with_reducible refine Below.setCell ?_ ?_ _) | (with_reducible refine bstep (by assumption) ?_ ?_) | (with_reducible exact Nat.le_refl _) | omega | (simp [*]; done) | (simp [*]; omega)))
  have z0 : w.heap.size + 2 ≤ v0.heap.size := by rw [hv0]; simp [size_set]
  have HB_0 : Hid (Blk v0 w.heap.size 40 #[.slice K n c, .slice W 0 d]) := by rw [hv0]; exact Lib.hid (((Blk.new_at _ _ _ _ (by simp [size_set]))).alloc _)
  have HR_0 : Hid (Blk v0 (w.heap.size + 1) 40 #[.slice none 0 0, .slice none 0 0]) := by rw [hv0]; exact Lib.hid ((Blk.new_at _ _ _ _ (by simp [size_set])))
  clear hv0
  obtain ⟨gR, hgR⟩ : ∃ q, q = w.heap.size + 1 := ⟨_, rfl⟩
  rw [← hgR] at HR_0
  try rw [← hgR]
  have lgR : w.heap.size ≤ gR := by omega
  have mgR : gR < v0.heap.size := by omega
  have ngR : ∀ k, w.heap.size ≤ k → k ≠ gR → True := fun _ _ _ => trivial
  clear ngR
  obtain ⟨gB, hgB⟩ : ∃ q, q = w.heap.size := ⟨_, rfl⟩
  rw [← hgB] at HB_0
  try rw [← hgB]
  have lgB : w.heap.size ≤ gB := by omega
  have mgB : gB < v0.heap.size := by omega
  have ngB : ∀ k, w.heap.size ≤ k → k ≠ gB → True := fun _ _ _ => trivial
  clear ngB
  have nnBR : gB < gR := by omega
  clear hgB
  clear hgR
  refine (((HID.out).inB f0 (fun _ hk => hk.2)).out.ok).mono ?_
  rintro e v1 ⟨rfl, b1⟩
  have f1 := bthen f0 b1
  have z1 := b1.size
  have HB_1 := Lib.hid (HB_0.out.below b1)
  have HR_1 := Lib.hid (HR_0.out.below b1)
  clear HB_0 HR_0
  have lt_B := HB_1.out.lt
  have r_B0 : v1.cell? ⟨gB, 0, none⟩ = some (.slice K n c) := HB_1.out.cell 0
  have r_B1 : v1.cell? ⟨gB, 1, none⟩ = some (.slice W 0 d) := HB_1.out.cell 1
  go_wp2_with fail
  refine (copyDisk_none K W n c d rows v1 ((HID.out).inB f1 (fun _ hk => hk.2)).out).mono ?_
  rintro e v2 ⟨K', c', vs, rfl, hO, b2⟩
  have f2 := bthen f1 b2
  have z2 := b2.size
  have HB_2 := Lib.hid (HB_1.out.below b2)
  have HR_2 := Lib.hid (HR_1.out.below b2)
  clear lt_B r_B0 r_B1
  clear HB_1 HR_1
  have HO_2 := Lib.hid (show On (Rg v1.heap.size v2.heap.size) (fun x => OwnK x v1.heap.size 59 K' n c' rows vs) v2 from hO.on)
  clear hO
  have lt_B := HB_2.out.lt
  have r_B0 : v2.cell? ⟨gB, 0, none⟩ = some (.slice K n c) := HB_2.out.cell 0
  have r_B1 : v2.cell? ⟨gB, 1, none⟩ = some (.slice W 0 d) := HB_2.out.cell 1
  go_wp2_with fail
  refine calls_named ?_
  rintro v3 hv3
  have f3 : Below w.heap.size w v3 := by rw [hv3]; (repeat' (first | (with_reducible exact Below.refl _ _) | (with_reducible assumption) | (with_reducible refine Below.alloc ?_ ?_ _) | (with_reducible refine Below.drew ?_) | (with_reducible refine Below.setCell ?_ ?_ _) | (with_reducible refine bstep (by assumption) ?_ ?_) | (with_reducible exact Nat.le_refl _) | omega | (simp [*]; done) | (simp [*]; omega)))
  have z3 : v2.heap.size + 1 ≤ v3.heap.size := by rw [hv3]; simp [size_set]
  have HB_3 : Hid (Blk v3 gB 40 #[.slice K n c, .slice W 0 d]) := by rw [hv3]; exact Lib.hid ((HB_2.out).alloc _)
  have HR_3 : Hid (Blk v3 gR 40 #[.slice none 0 0, .slice none 0 0]) := by rw [hv3]; exact Lib.hid ((HR_2.out).alloc _)
  have HO_3 : Hid (On (Rg v1.heap.size v2.heap.size) (fun x => OwnK x v1.heap.size 59 K' n c' rows vs) v3) := by rw [hv3]; exact Lib.hid ((HO_2.out).alloc _)
  have HU_3 : Hid (Blk v3 v2.heap.size 40 #[(.slice K' n c'), .slice none 0 0]) := by rw [hv3]; exact Lib.hid ((Blk.new_at _ _ _ _ (by simp [size_set])))
  clear lt_B r_B0 r_B1
  clear hv3 HB_2 HR_2 HO_2
  obtain ⟨gU, hgU⟩ : ∃ q, q = v2.heap.size := ⟨_, rfl⟩
  rw [← hgU] at HU_3
  try rw [← hgU]
  have lgU : v2.heap.size ≤ gU := by omega
  have mgU : gU < v3.heap.size := by omega
  have ngU : ∀ k, v2.heap.size ≤ k → k ≠ gU → True := fun _ _ _ => trivial
  clear ngU
  clear hgU
  refine (sectorOk_yes K W n c 0 d at_ v3 ha hn.2).mono ?_
  rintro e v4 ⟨rfl, b4⟩
  have f4 := bthen f3 b4
  have z4 := b4.size
  have HB_4 := Lib.hid (HB_3.out.below b4)
  have HR_4 := Lib.hid (HR_3.out.below b4)
  have HO_4 := Lib.hid (HO_3.out.below b4)
  have HU_4 := Lib.hid (HU_3.out.below b4)
  clear HB_3 HR_3 HO_3 HU_3
  have lt_B := HB_4.out.lt
  have r_B0 : v4.cell? ⟨gB, 0, none⟩ = some (.slice K n c) := HB_4.out.cell 0
  have r_B1 : v4.cell? ⟨gB, 1, none⟩ = some (.slice W 0 d) := HB_4.out.cell 1
  go_wp2_with fail
  refine (rowOk_yes A m cx zs v4 ((HIX.out).inB f4 (fun _ hk => hk.2)).out hm (numsB_of HZ.out.2)).mono ?_
  rintro e v' ⟨rfl, rfl⟩
  go_upto_region 6 with fail
  clear lt_B r_B0 r_B1
  have lt_U := HU_4.out.lt
  have r_U0 : v4.cell? ⟨gU, 0, none⟩ = some ((.slice K' n c')) := HU_4.out.cell 0
  have r_U1 : v4.cell? ⟨gU, 1, none⟩ = some (.slice none 0 0) := HU_4.out.cell 1
  have z_U1 := HU_4.out.frozen 1
  have HX := Lib.hid ((HIX.out).inB f4 (fun _ hk => hk.2)).out
  obtain ⟨ia, hia, hza, hsa, hya⟩ := info_parts info_WriteL
  go_region_law (first | (refine step_append_lies _ rfl _ _ 38 rfl v5.heap.size 216 ia _ 2 32 Tryz.underlying38 hia hza hsa hya (by simp [Value.cells]) (by decide) (.slice none 0 0) 0 [] rfl (World.ownsRow_nil _ _ _ _) ⟨_, 0, none⟩ 1 1 [.int .i64 at_, .slice A4 m c4] rfl rfl (cell_two_at rfl) two_one (by decide) (by unfold maxLen; omega) (by omega) (by simp) _ rfl ?_; intro g c6 w6 hown hgrow hat hlt6; have E6 : Below v5.heap.size v5 w6 := (by with_reducible exact grow_al hgrow); have KU6 := KU5.below E6; have u61 := KU6.cell 1; have uf6 := KU6.frozen 1; have ul6 := KU6.lt) | (go_simp; go_at_call 126; refine (copyRow_any A m cx zs _ ?_ (by omega) hx3).mono ?_; (first | with_reducible exact HX.out | with_reducible exact Sl.drew HX.out); rintro e v5 ⟨A4, c4, rfl, R4, b5⟩; have E5 : Below v4.heap.size v4 v5 := (by first | with_reducible exact b5 | with_reducible exact sd_dr b5); have R4b : Row v5 v4.heap.size 2 1 A4 m c4 zs := (by exact R4); have KU5 := HU_4.out.below E5; have u51 := KU5.cell 1; have uf1 := KU5.frozen 1; have ul := KU5.lt; clear b5 R4))
  all_goals
    have hfin := wr_end (w := w) (gU := gU) (gR := gR) HR_4 HO_4 HU_4 f4 E5 E6 R4b hown (by omega) (by omega) (by omega) (by omega) (by omega) (by omega) (by omega) (by omega) hn HR.out ha HZ.out (by omega) _ rfl
    have KR6 := ((HR_4.out.below E5).below E6).far (p := ⟨gU, 1, none⟩) (by show gR ≠ gU; omega) (.slice (some ⟨g, 0, none⟩) 1 c6)
    have KU7 := KU6.set_ 1 (.slice (some ⟨g, 0, none⟩) 1 c6)
    have q0 := KU7.cell 0
    have q1 := KU7.cell 1
    have lq := KU7.lt
    have p0 := KR6.cell 0
    have p1 := KR6.cell 1
    have pz0 := KR6.frozen 0
    have pz1 := KR6.frozen 1
    have lp := KR6.lt
    simp only [size_set] at lq lp
    clear u51 uf1 ul KU5 KU6 KU7 KR6 u61
    go_wp21
    refine bodyPost_ret (v := .tuple #[.agg #[.slice K' n c', .slice (some ⟨g, 0, none⟩) 1 c6], .bool true]) (by simp [results, Tryz.results123, go_sem, *]) rfl ?_
    exact ⟨_, _, _, _, rfl, hfin⟩
end Go.Proofs.YtbheflinchabgaaGreatDoor
namespace Go.Proofs.YtbheflinchabgaaGreatDoor
set_option linter.unusedSimpArgs false
set_option linter.unusedVariables false
attribute [local go_sem] n_lt2 n_lt3 n_lt4 n_le2 n_le3
open Go.RowKit
attribute [local go_sem] Ext.cell Ext.frozen
theorem eqNil (b o n c : Nat) (w : World) : (binOp .eql 59 (.slice (some ⟨b, o, none⟩) n c) (.slice none 0 0)).run Tryz.prog w = .ok (.bool false) w := by
  simp only [binOp]
  simp [run_equal_slice_nil w 59 2 (some ⟨b, o, none⟩) n c Tryz.underlying59]
theorem withL_row {zs : List Int} (h : rowL zs) (hl : zs.length < 48) : rowL (withL zs) := ⟨by rw [withL_len]; omega, withL_nums h.2⟩
theorem RetDk.at_ {w w' : World} {n m : Nat} {rows : List (List Int)} {ws : List (Int × List Int)} {wrap : Value → Value} {e : Ending} (h : RetDk w n m rows ws wrap e w') : ∃ K c W d, e = .returned (wrap (.agg #[.slice K n c, .slice W m d])) ∧ On (Rg w.heap.size w'.heap.size) (fun x => Dk x K n W m rows ws) w' ∧ Below w.heap.size w w' := h
set_option maxRecDepth 100000 in
set_option maxHeartbeats 8000000 in
theorem bothWrote_any (KA WA KB WB A : Option Addr) (cA dA cB dB m cx : Nat) (ra rb : List (List Int)) (at_ : Nat) (zs : List Int) (w : World) (hA : Dk w KA 22 WA 0 ra []) (hB : Dk w KB 22 WB 0 rb []) (hX : Rw w (.slice A m cx) zs) (hat : at_ < 22) (hz : rowL zs) (hz48 : zs.length < 48) :
    Calls Tryz.prog 96 #[.agg #[.slice KA 22 cA, .slice WA 0 dA, .slice KB 22 cB, .slice WB 0 dB], .int .i64 (at_ : Nat), .slice A m cx] w (RetTw w 1 1 ra [((at_ : Int), withL zs)] rb [((at_ : Int), withL zs)] (fun x => .tuple #[x, .bool true])) := by
  obtain ⟨A', cx', hv, hSx, hx1, hx2, hx3, hx4⟩ := hX
  injection hv with e1 e2 e3
  subst e1 e2 e3
  have hZF := Lib.hid (withL_row hz hz48)
  generalize hzl : zs.length = m at *
  have HZ := Lib.hid hz
  clear hx4 hz
  have HIA : Hid (On (Rg 0 w.heap.size) (fun x => Dk x KA 22 WA 0 ra []) w) := Lib.hid (On.below_of (fun _ hb => (hA).below hb))
  clear hA
  have HIB : Hid (On (Rg 0 w.heap.size) (fun x => Dk x KB 22 WB 0 rb []) w) := Lib.hid (On.below_of (fun _ hb => (hB).below hb))
  clear hB
  have HIX : Hid (On (Rg 0 w.heap.size) (fun x => Sl x 1 A m zs) w) := Lib.hid (On.below_of (fun _ hb => (hSx).below hb))
  clear hSx
  go_enter Tryz.func96, Tryz.ntmps96
  go_wp2_with fail
  refine calls_named ?_
  rintro v0 hv0
  have f0 : Below w.heap.size w v0 := by rw [hv0]; (repeat' (first | (with_reducible exact Below.refl _ _) | (with_reducible assumption) | (with_reducible refine Below.alloc ?_ ?_ _) | (with_reducible refine Below.drew ?_) | (with_reducible refine Below.setCell ?_ ?_ _) | (with_reducible refine bstep (by assumption) ?_ ?_) | (with_reducible exact Nat.le_refl _) | omega | (simp [*]; done) | (simp [*]; omega)))
  have z0 : w.heap.size + 2 ≤ v0.heap.size := by rw [hv0]; simp [size_set]
  have HT_0 : Hid (Blk v0 w.heap.size 42 #[.slice KA 22 cA, .slice WA 0 dA, .slice KB 22 cB, .slice WB 0 dB]) := by rw [hv0]; exact Lib.hid (((Blk.new_at _ _ _ _ (by simp [size_set]))).alloc _)
  have HR_0 : Hid (Blk v0 (w.heap.size + 1) 42 #[.slice none 0 0, .slice none 0 0, .slice none 0 0, .slice none 0 0]) := by rw [hv0]; exact Lib.hid ((Blk.new_at _ _ _ _ (by simp [size_set])))
  clear hv0
  obtain ⟨gR, hgR⟩ : ∃ q, q = w.heap.size + 1 := ⟨_, rfl⟩
  rw [← hgR] at HR_0
  try rw [← hgR]
  have lgR : w.heap.size ≤ gR := by omega
  have mgR : gR < v0.heap.size := by omega
  have ngR : ∀ k, w.heap.size ≤ k → k ≠ gR → True := fun _ _ _ => trivial
  clear ngR
  obtain ⟨gT, hgT⟩ : ∃ q, q = w.heap.size := ⟨_, rfl⟩
  rw [← hgT] at HT_0
  try rw [← hgT]
  have lgT : w.heap.size ≤ gT := by omega
  have mgT : gT < v0.heap.size := by omega
  have ngT : ∀ k, w.heap.size ≤ k → k ≠ gT → True := fun _ _ _ => trivial
  clear ngT
  have nnTR : gT < gR := by omega
  clear hgT
  clear hgR
  refine (twoOk_yes KA WA KB WB 22 cA 0 dA cB 0 dB ra rb [] [] v0 ((HIA.out).inB f0 (fun _ hk => hk.2)).out ((HIB.out).inB f0 (fun _ hk => hk.2)).out).mono ?_
  rintro e v1 ⟨rfl, b1⟩
  have f1 := bthen f0 b1
  have z1 := b1.size
  have HT_1 := Lib.hid (HT_0.out.below b1)
  have HR_1 := Lib.hid (HR_0.out.below b1)
  clear HT_0 HR_0
  go_wp2_with fail
  refine (withSum_yes A m cx zs v1 ((HIX.out).inB f1 (fun _ hk => hk.2)).out hz48 HZ.out.2 hx3).mono ?_
  rintro e v2 ⟨A2, c2, rfl, R2, b2⟩
  obtain ⟨bz, oz, rfl, -, -⟩ := R2.sl.at_ (by omega)
  have hF := R2.on.map (fun v hv => Rw.of_row hv)
  have f2 := bthen f1 b2
  have z2 := b2.size
  have HT_2 := Lib.hid (HT_1.out.below b2)
  have HR_2 := Lib.hid (HR_1.out.below b2)
  clear HT_1 HR_1
  have HF_2 := Lib.hid (show On (Rg v1.heap.size v2.heap.size) (fun x => Rw x (.slice (some ⟨bz, oz, none⟩) (m + 1) c2) (withL zs)) v2 from hF)
  clear hF
  clear R2
  have lt_T := HT_2.out.lt
  obtain ⟨r_T0, r_T1, r_T2, r_T3⟩ := bc4 HT_2.out
  have hnil := fun W : World => eqNil bz oz (m + 1) c2 W
  go_wp2_with fail
  refine (disks_any KA WA KB WB 22 0 22 0 cA dA cB dB v2).mono ?_
  rintro e v3 ⟨rfl, b3⟩
  have f3 := bthen f2 b3
  have z3 := b3.size
  have HT_3 := Lib.hid (HT_2.out.below b3)
  have HR_3 := Lib.hid (HR_2.out.below b3)
  have HF_3 := Lib.hid (HF_2.out.below b3)
  clear lt_T r_T0 r_T1 r_T2 r_T3
  clear HT_2 HR_2 HF_2
  clear hnil
  go_upto_region 7 with fail
  obtain ⟨v4, hv4⟩ : ∃ x : World, x = (v3.alloc (.cells #[.slice KA 22 cA, .slice WA 0 dA, .slice KB 22 cB, .slice WB 0 dB] 173)) := ⟨_, rfl⟩
  rw [← hv4]
  have f4 : Below w.heap.size w v4 := by rw [hv4]; (repeat' (first | (with_reducible exact Below.refl _ _) | (with_reducible assumption) | (with_reducible refine Below.alloc ?_ ?_ _) | (with_reducible refine Below.drew ?_) | (with_reducible refine Below.setCell ?_ ?_ _) | (with_reducible refine bstep (by assumption) ?_ ?_) | (with_reducible exact Nat.le_refl _) | omega | (simp [*]; done) | (simp [*]; omega)))
  have z4 : v3.heap.size + 1 ≤ v4.heap.size := by rw [hv4]; simp [size_set]
  have HT_4 : Hid (Blk v4 gT 42 #[.slice KA 22 cA, .slice WA 0 dA, .slice KB 22 cB, .slice WB 0 dB]) := by rw [hv4]; exact Lib.hid ((HT_3.out).alloc _)
  have HR_4 : Hid (Blk v4 gR 42 #[.slice none 0 0, .slice none 0 0, .slice none 0 0, .slice none 0 0]) := by rw [hv4]; exact Lib.hid ((HR_3.out).alloc _)
  have HF_4 : Hid (On (Rg v1.heap.size v2.heap.size) (fun x => Rw x (.slice (some ⟨bz, oz, none⟩) (m + 1) c2) (withL zs)) v4) := by rw [hv4]; exact Lib.hid ((HF_3.out).alloc _)
  have HU_4 : Hid (Blk v4 v3.heap.size 173 #[.slice KA 22 cA, .slice WA 0 dA, .slice KB 22 cB, .slice WB 0 dB]) := by rw [hv4]; exact Lib.hid ((Blk.new_at _ _ _ _ (by simp [size_set])))
  clear hv4 HT_3 HR_3 HF_3
  obtain ⟨gU, hgU⟩ : ∃ q, q = v3.heap.size := ⟨_, rfl⟩
  rw [← hgU] at HU_4
  try rw [← hgU]
  have lgU : v3.heap.size ≤ gU := by omega
  have mgU : gU < v4.heap.size := by omega
  have ngU : ∀ k, v3.heap.size ≤ k → k ≠ gU → True := fun _ _ _ => trivial
  clear ngU
  clear hgU
  have lt_U := HU_4.out.lt
  obtain ⟨r_U0, r_U1, r_U2, r_U3⟩ := bc4 HU_4.out
  go_wp2_with fail
  clear lt_U r_U0 r_U1 r_U2 r_U3
  go_loopw [27] (fun iv wr => (iv = .int .i64 0 ∧ v4 = wr) ∨ (iv = .int .i64 1 ∧ ∃ K1 c1 W1 d1 T, Hid (Blk wr gU 173 #[.slice K1 22 c1, .slice W1 1 d1, .slice KB 22 cB, .slice WB 0 dB]) ∧ Hid (Blk wr gR 42 #[.slice none 0 0, .slice none 0 0, .slice none 0 0, .slice none 0 0]) ∧ Hid (On T (fun x => Dk x K1 22 W1 1 ra [((at_ : Int), withL zs)]) wr) ∧ Hid (Sane w wr T gU gR) ∧ Hid (On (Rg v1.heap.size v2.heap.size) (fun x => Rw x (.slice (some ⟨bz, oz, none⟩) (m + 1) c2) (withL zs)) wr) ∧ Hid (Below w.heap.size w wr) ∧ v4.heap.size ≤ wr.heap.size) ∨
        (iv = .int .i64 2 ∧ ∃ K1 c1 W1 d1 K2 c2 W2 d2 T, Hid (Blk wr gU 173 #[.slice K1 22 c1, .slice W1 1 d1, .slice K2 22 c2, .slice W2 1 d2]) ∧ Hid (Blk wr gR 42 #[.slice none 0 0, .slice none 0 0, .slice none 0 0, .slice none 0 0]) ∧ Hid (On T (fun x => Dk x K1 22 W1 1 ra [((at_ : Int), withL zs)] ∧ Dk x K2 22 W2 1 rb [((at_ : Int), withL zs)]) wr) ∧ Hid (Sane w wr T gU gR) ∧ Hid (Below w.heap.size w wr) ∧ v4.heap.size ≤ wr.heap.size)) (fun iv _ => 2 - (intOf iv).toNat)
  case atStart => exact .inl ⟨rfl, rfl⟩
  case round =>
    rcases hrel with ⟨rfl, rfl⟩ | ⟨rfl, K1, c1, W1, d1, T, HU, HR, HO, HS, HFF, HF, hsz⟩ | ⟨rfl, K1, c1, W1, d1, K2, c22, W2, d2, T, HU, HR, HO, HS, HF, hsz⟩
    · have lt_U := HU_4.out.lt
      obtain ⟨r_U0, r_U1, r_U2, r_U3⟩ := bc4 HU_4.out
      have hidx := fun W : World => idx2_0 (.slice KA 22 cA) (.slice WA 0 dA) (.slice KB 22 cB) (.slice WB 0 dB) W
      go_wp2_with fail
      refine calls_named ?_
      rintro v5 hv5
      have f5 : Below w.heap.size w v5 := by rw [hv5]; (repeat' (first | (with_reducible exact Below.refl _ _) | (with_reducible assumption) | (with_reducible refine Below.alloc ?_ ?_ _) | (with_reducible refine Below.drew ?_) | (with_reducible refine Below.setCell ?_ ?_ _) | (with_reducible refine bstep (by assumption) ?_ ?_) | (with_reducible exact Nat.le_refl _) | omega | (simp [*]; done) | (simp [*]; omega)))
      have z5 : v4.heap.size + 1 ≤ v5.heap.size := by rw [hv5]; simp [size_set]
      have HT_5 : Hid (Blk v5 gT 42 #[.slice KA 22 cA, .slice WA 0 dA, .slice KB 22 cB, .slice WB 0 dB]) := by rw [hv5]; exact Lib.hid ((HT_4.out).alloc _)
      have HR_5 : Hid (Blk v5 gR 42 #[.slice none 0 0, .slice none 0 0, .slice none 0 0, .slice none 0 0]) := by rw [hv5]; exact Lib.hid ((HR_4.out).alloc _)
      have HF_5 : Hid (On (Rg v1.heap.size v2.heap.size) (fun x => Rw x (.slice (some ⟨bz, oz, none⟩) (m + 1) c2) (withL zs)) v5) := by rw [hv5]; exact Lib.hid ((HF_4.out).alloc _)
      have HU_5 : Hid (Blk v5 gU 173 #[.slice KA 22 cA, .slice WA 0 dA, .slice KB 22 cB, .slice WB 0 dB]) := by rw [hv5]; exact Lib.hid ((HU_4.out).alloc _)
      have HD_5 : Hid (Blk v5 v4.heap.size 40 #[.slice KA 22 cA, .slice WA 0 dA]) := by rw [hv5]; exact Lib.hid ((Blk.new_at _ _ _ _ (by simp [size_set])))
      clear lt_U r_U0 r_U1 r_U2 r_U3
      clear hv5 HT_4 HR_4 HF_4 HU_4
      obtain ⟨gD, hgD⟩ : ∃ q, q = v4.heap.size := ⟨_, rfl⟩
      rw [← hgD] at HD_5
      try rw [← hgD]
      have lgD : v4.heap.size ≤ gD := by omega
      have mgD : gD < v5.heap.size := by omega
      have ngD : ∀ k, v4.heap.size ≤ k → k ≠ gD → True := fun _ _ _ => trivial
      clear ngD
      clear hgD
      clear hidx
      refine (wrote_none KA WA (some ⟨bz, oz, none⟩) 22 cA dA (m + 1) c2 ra (at_ : Nat) (withL zs) v5 ((HIA.out).inB f5 (fun _ hk => hk.2)).out HF_5.out.out (by omega) hZF.out).mono ?_
      rintro e v6 hq
      obtain ⟨K1, c1, W1, d1, rfl, hO, b6⟩ := hq.at_
      clear hq
      have f6 := bthen f5 b6
      have z6 := b6.size
      have HT_6 := Lib.hid (HT_5.out.below b6)
      have HR_6 := Lib.hid (HR_5.out.below b6)
      have HF_6 := Lib.hid (HF_5.out.below b6)
      have HU_6 := Lib.hid (HU_5.out.below b6)
      have HD_6 := Lib.hid (HD_5.out.below b6)
      clear HT_5 HR_5 HF_5 HU_5 HD_5
      have HN_6 := Lib.hid (show On (Rg v5.heap.size v6.heap.size) (fun x => Dk x K1 22 W1 1 ra [((at_ : Int), withL zs)]) v6 from hO)
      clear hO
      have lt_U := HU_6.out.lt
      obtain ⟨r_U0, r_U1, r_U2, r_U3⟩ := bc4 HU_6.out
      have z_U0 := HU_6.out.frozen 0
      have z_U1 := HU_6.out.frozen 1
      go_wp2_with fail
      exact ⟨.inr (.inl ⟨rfl, K1, c1, W1, d1, Rg v5.heap.size v6.heap.size, Lib.hid ((((HU_6.out).set_ 0 _).set_ 1 _).alloc _), Lib.hid ((((HR_6.out).far (p := ⟨gU, 0, none⟩) (show gR ≠ gU by omega) _).far (p := ⟨gU, 1, none⟩) (show gR ≠ gU by omega) _).alloc _), Lib.hid ((((HN_6.out).far (g := gU) (Rg.no (by omega)) 0 _).far (g := gU) (Rg.no (by omega)) 1 _).alloc _), Lib.hid (Sane.rg (by omega) (by simp [size_set]) (by omega) (by omega)), Lib.hid ((((HF_6.out).far (g := gU) (Rg.no (by omega)) 0 _).far (g := gU) (Rg.no (by omega)) 1 _).alloc _), Lib.hid ((((f6).setCell (p := ⟨gU, 0, none⟩) (show w.heap.size ≤ gU by omega) _).setCell (p := ⟨gU, 1, none⟩) (show w.heap.size ≤ gU by omega) _).alloc (by (try simp only [size_set]); omega) _), by simp [size_set]; omega⟩), by simp [intOf]⟩
    · have f5 := HF.out
      have z5 : v4.heap.size ≤ wr.heap.size := hsz
      obtain ⟨v5, hv5⟩ : ∃ x, x = wr := ⟨_, rfl⟩
      rw [← hv5] at HU HR HO HS HFF f5 z5 ⊢
      clear hv5 HF hsz
      have HU_5 := HU
      have HR_5 := HR
      have HN_5 : Hid (On T (fun x => Dk x K1 22 W1 1 ra [((at_ : Int), withL zs)]) v5) := HO
      have HF_5 : Hid (On (Rg v1.heap.size v2.heap.size) (fun x => Rw x (.slice (some ⟨bz, oz, none⟩) (m + 1) c2) (withL zs)) v5) := HFF
      clear HU HR HO HFF
      have lt_U := HU_5.out.lt
      obtain ⟨r_U0, r_U1, r_U2, r_U3⟩ := bc4 HU_5.out
      have hidx := fun W : World => idx2_1 (.slice KA 22 cA) (.slice WA 0 dA) (.slice KB 22 cB) (.slice WB 0 dB) W
      go_wp2_with fail
      refine calls_named ?_
      rintro v6 hv6
      have f6 : Below w.heap.size w v6 := by rw [hv6]; (repeat' (first | (with_reducible exact Below.refl _ _) | (with_reducible assumption) | (with_reducible refine Below.alloc ?_ ?_ _) | (with_reducible refine Below.drew ?_) | (with_reducible refine Below.setCell ?_ ?_ _) | (with_reducible refine bstep (by assumption) ?_ ?_) | (with_reducible exact Nat.le_refl _) | omega | (simp [*]; done) | (simp [*]; omega)))
      have z6 : v5.heap.size + 1 ≤ v6.heap.size := by rw [hv6]; simp [size_set]
      have HU_6 : Hid (Blk v6 gU 173 #[.slice K1 22 c1, .slice W1 1 d1, .slice KB 22 cB, .slice WB 0 dB]) := by rw [hv6]; exact Lib.hid ((HU_5.out).alloc _)
      have HR_6 : Hid (Blk v6 gR 42 #[.slice none 0 0, .slice none 0 0, .slice none 0 0, .slice none 0 0]) := by rw [hv6]; exact Lib.hid ((HR_5.out).alloc _)
      have HN_6 : Hid (On T (fun x => Dk x K1 22 W1 1 ra [((at_ : Int), withL zs)]) v6) := by rw [hv6]; exact Lib.hid ((HN_5.out).alloc _)
      have HF_6 : Hid (On (Rg v1.heap.size v2.heap.size) (fun x => Rw x (.slice (some ⟨bz, oz, none⟩) (m + 1) c2) (withL zs)) v6) := by rw [hv6]; exact Lib.hid ((HF_5.out).alloc _)
      have HD_6 : Hid (Blk v6 v5.heap.size 40 #[.slice KB 22 cB, .slice WB 0 dB]) := by rw [hv6]; exact Lib.hid ((Blk.new_at _ _ _ _ (by simp [size_set])))
      clear lt_U r_U0 r_U1 r_U2 r_U3
      clear hv6 HU_5 HR_5 HN_5 HF_5
      obtain ⟨gD, hgD⟩ : ∃ q, q = v5.heap.size := ⟨_, rfl⟩
      rw [← hgD] at HD_6
      try rw [← hgD]
      have lgD : v5.heap.size ≤ gD := by omega
      have mgD : gD < v6.heap.size := by omega
      have ngD : ∀ k, v5.heap.size ≤ k → k ≠ gD → True := fun _ _ _ => trivial
      clear ngD
      clear hgD
      clear hidx
      refine (wrote_none KB WB (some ⟨bz, oz, none⟩) 22 cB dB (m + 1) c2 rb (at_ : Nat) (withL zs) v6 ((HIB.out).inB f6 (fun _ hk => hk.2)).out HF_6.out.out (by omega) hZF.out).mono ?_
      rintro e v7 hq
      obtain ⟨K2, c22, W2, d2, rfl, hO, b7⟩ := hq.at_
      clear hq
      have f7 := bthen f6 b7
      have z7 := b7.size
      have HU_7 := Lib.hid (HU_6.out.below b7)
      have HR_7 := Lib.hid (HR_6.out.below b7)
      have HN_7 := Lib.hid (HN_6.out.below b7)
      have HF_7 := Lib.hid (HF_6.out.below b7)
      have HD_7 := Lib.hid (HD_6.out.below b7)
      clear HU_6 HR_6 HN_6 HF_6 HD_6
      have HM_7 := Lib.hid (show On (Rg v6.heap.size v7.heap.size) (fun x => Dk x K2 22 W2 1 rb [((at_ : Int), withL zs)]) v7 from hO)
      clear hO
      have lt_U := HU_7.out.lt
      obtain ⟨r_U0, r_U1, r_U2, r_U3⟩ := bc4 HU_7.out
      have z_U2 := HU_7.out.frozen 2
      have z_U3 := HU_7.out.frozen 3
      go_wp2_with fail
      exact ⟨.inr (.inr ⟨rfl, K1, c1, W1, d1, K2, c22, W2, d2, _, Lib.hid ((((HU_7.out).set_ 2 _).set_ 3 _).alloc _), Lib.hid ((((HR_7.out).far (p := ⟨gU, 2, none⟩) (show gR ≠ gU by omega) _).far (p := ⟨gU, 3, none⟩) (show gR ≠ gU by omega) _).alloc _), Lib.hid (((((HN_7.out).far (g := gU) HS.out.a 2 _).far (g := gU) HS.out.a 3 _).alloc _).or ((((HM_7.out).far (g := gU) (Rg.no (by omega)) 2 _).far (g := gU) (Rg.no (by omega)) 3 _).alloc _)), Lib.hid ((HS.out.mono (by simp [size_set]; omega)).or (Sane.rg (by omega) (by simp [size_set]) (by omega) (by omega))), Lib.hid ((((f7).setCell (p := ⟨gU, 2, none⟩) (show w.heap.size ≤ gU by omega) _).setCell (p := ⟨gU, 3, none⟩) (show w.heap.size ≤ gU by omega) _).alloc (by (try simp only [size_set]); omega) _), by simp [size_set]; omega⟩), by simp [intOf]⟩
    · have f5 := HF.out
      have z5 : v4.heap.size ≤ wr.heap.size := hsz
      obtain ⟨v5, hv5⟩ : ∃ x, x = wr := ⟨_, rfl⟩
      rw [← hv5] at HU HR HO HS f5 z5 ⊢
      clear hv5 HF hsz
      have HU_5 := HU
      have HR_5 := HR
      clear HU HR
      have lt_U := HU_5.out.lt
      obtain ⟨r_U0, r_U1, r_U2, r_U3⟩ := bc4 HU_5.out
      go_wp2_with fail
      refine (twoOf_any K1 W1 K2 W2 22 1 22 1 c1 d1 c22 d2 v5).mono ?_
      rintro e v6 ⟨rfl, b6⟩
      have HO6 := Lib.hid (HO.out.below b6)
      have f6 := bthen f5 b6
      have z6 := b6.size
      have HU_6 := Lib.hid (HU_5.out.below b6)
      have HR_6 := Lib.hid (HR_5.out.below b6)
      clear lt_U r_U0 r_U1 r_U2 r_U3
      clear HU_5 HR_5
      have lt_R := HR_6.out.lt
      obtain ⟨r_R0, r_R1, r_R2, r_R3⟩ := bc4 HR_6.out
      obtain ⟨z_R0, z_R1, z_R2, z_R3⟩ := bf4 HR_6.out
      go_wp21
      refine bodyPost_ret (v := .tuple #[.agg #[.slice K1 22 c1, .slice W1 1 d1, .slice K2 22 c22, .slice W2 1 d2], .bool true]) (by simp [results, Tryz.results96, go_sem, *]) rfl ?_
      exact ⟨K1, c1, W1, d1, K2, c22, W2, d2, rfl, (((((HO6.out.far HS.out.b 0 _).far HS.out.b 1 _).far HS.out.b 2 _).far HS.out.b 3 _).sub (fun k hk => ⟨(HS.out.r k hk).1, by have := (HS.out.r k hk).2; simp only [size_set]; omega⟩)), ((((f6).setCell (p := ⟨gR, 0, none⟩) (show w.heap.size ≤ gR by omega) _).setCell (p := ⟨gR, 1, none⟩) (show w.heap.size ≤ gR by omega) _).setCell (p := ⟨gR, 2, none⟩) (show w.heap.size ≤ gR by omega) _).setCell (p := ⟨gR, 3, none⟩) (show w.heap.size ≤ gR by omega) _⟩
set_option maxRecDepth 100000 in
set_option maxHeartbeats 4000000 in
theorem mendedAt_any (KA WA KB WB A : Option Addr) (cA dA cB dB m cx : Nat) (ra rb : List (List Int)) (at_ : Nat) (zs : List Int) (w : World) (hA : Dk w KA 22 WA 0 ra []) (hB : Dk w KB 22 WB 0 rb []) (hX : Rw w (.slice A m cx) zs) (hat : at_ < 22) (hz : rowL zs) (hz48 : zs.length < 48) :
    Calls Tryz.prog 49 #[.agg #[.slice KA 22 cA, .slice WA 0 dA, .slice KB 22 cB, .slice WB 0 dB], .int .i64 (at_ : Nat), .slice A m cx] w (RetTw w 0 0 (ra.set at_ (withL zs)) [] (rb.set at_ (withL zs)) [] id) := by
  have HIA : Hid (On (Rg 0 w.heap.size) (fun x => Dk x KA 22 WA 0 ra []) w) := Lib.hid (On.below_of (fun _ hb => (hA).below hb))
  clear hA
  have HIB : Hid (On (Rg 0 w.heap.size) (fun x => Dk x KB 22 WB 0 rb []) w) := Lib.hid (On.below_of (fun _ hb => (hB).below hb))
  clear hB
  have HIX : Hid (On (Rg 0 w.heap.size) (fun x => Rw x (.slice A m cx) zs) w) := Lib.hid (On.below_of (fun _ hb => (hX).below hb))
  clear hX
  go_enter Tryz.func49, Tryz.ntmps49
  go_wp2_with fail
  refine calls_named ?_
  rintro v0 hv0
  have f0 : Below w.heap.size w v0 := by rw [hv0]; (repeat' (first | (with_reducible exact Below.refl _ _) | (with_reducible assumption) | (with_reducible refine Below.alloc ?_ ?_ _) | (with_reducible refine Below.drew ?_) | (with_reducible refine Below.setCell ?_ ?_ _) | (with_reducible refine bstep (by assumption) ?_ ?_) | (with_reducible exact Nat.le_refl _) | omega | (simp [*]; done) | (simp [*]; omega)))
  have z0 : w.heap.size + 2 ≤ v0.heap.size := by rw [hv0]; simp [size_set]
  have HT_0 : Hid (Blk v0 w.heap.size 42 #[.slice KA 22 cA, .slice WA 0 dA, .slice KB 22 cB, .slice WB 0 dB]) := by rw [hv0]; exact Lib.hid (((Blk.new_at _ _ _ _ (by simp [size_set]))).alloc _)
  have HR_0 : Hid (Blk v0 (w.heap.size + 1) 42 #[.slice none 0 0, .slice none 0 0, .slice none 0 0, .slice none 0 0]) := by rw [hv0]; exact Lib.hid ((Blk.new_at _ _ _ _ (by simp [size_set])))
  clear hv0
  obtain ⟨gR, hgR⟩ : ∃ q, q = w.heap.size + 1 := ⟨_, rfl⟩
  rw [← hgR] at HR_0
  try rw [← hgR]
  have lgR : w.heap.size ≤ gR := by omega
  have mgR : gR < v0.heap.size := by omega
  have ngR : ∀ k, w.heap.size ≤ k → k ≠ gR → True := fun _ _ _ => trivial
  clear ngR
  obtain ⟨gT, hgT⟩ : ∃ q, q = w.heap.size := ⟨_, rfl⟩
  rw [← hgT] at HT_0
  try rw [← hgT]
  have lgT : w.heap.size ≤ gT := by omega
  have mgT : gT < v0.heap.size := by omega
  have ngT : ∀ k, w.heap.size ≤ k → k ≠ gT → True := fun _ _ _ => trivial
  clear ngT
  have nnTR : gT < gR := by omega
  clear hgT
  clear hgR
  refine (bothWrote_any KA WA KB WB A cA dA cB dB m cx ra rb at_ zs v0 ((HIA.out).inB f0 (fun _ hk => hk.2)).out ((HIB.out).inB f0 (fun _ hk => hk.2)).out ((HIX.out).inB f0 (fun _ hk => hk.2)).out hat hz hz48).mono ?_
  rintro e v1 ⟨K1, c1, W1, d1, K2, c2, W2, d2, rfl, hO, b1⟩
  have f1 := bthen f0 b1
  have z1 := b1.size
  have HT_1 := Lib.hid (HT_0.out.below b1)
  have HR_1 := Lib.hid (HR_0.out.below b1)
  clear HT_0 HR_0
  have HO1 := Lib.hid hO
  clear hO
  go_wp2_with fail
  refine calls_named ?_
  rintro v2 hv2
  have f2 : Below w.heap.size w v2 := by rw [hv2]; (repeat' (first | (with_reducible exact Below.refl _ _) | (with_reducible assumption) | (with_reducible refine Below.alloc ?_ ?_ _) | (with_reducible refine Below.drew ?_) | (with_reducible refine Below.setCell ?_ ?_ _) | (with_reducible refine bstep (by assumption) ?_ ?_) | (with_reducible exact Nat.le_refl _) | omega | (simp [*]; done) | (simp [*]; omega)))
  have z2 : v1.heap.size + 1 ≤ v2.heap.size := by rw [hv2]; simp [size_set]
  have HT_2 : Hid (Blk v2 gT 42 #[.slice KA 22 cA, .slice WA 0 dA, .slice KB 22 cB, .slice WB 0 dB]) := by rw [hv2]; exact Lib.hid ((HT_1.out).alloc _)
  have HR_2 : Hid (Blk v2 gR 42 #[.slice none 0 0, .slice none 0 0, .slice none 0 0, .slice none 0 0]) := by rw [hv2]; exact Lib.hid ((HR_1.out).alloc _)
  have HM_2 : Hid (Blk v2 v1.heap.size 42 #[.slice K1 22 c1, .slice W1 1 d1, .slice K2 22 c2, .slice W2 1 d2]) := by rw [hv2]; exact Lib.hid ((Blk.new_at _ _ _ _ (by simp [size_set])))
  have HO2 : Hid (Dk v2 K1 22 W1 1 ra [((at_ : Int), withL zs)] ∧ Dk v2 K2 22 W2 1 rb [((at_ : Int), withL zs)]) := by rw [hv2]; exact Lib.hid (HO1.out.alloc _).out
  clear hv2 HT_1 HR_1
  obtain ⟨gM, hgM⟩ : ∃ q, q = v1.heap.size := ⟨_, rfl⟩
  rw [← hgM] at HM_2
  try rw [← hgM]
  have lgM : v1.heap.size ≤ gM := by omega
  have mgM : gM < v2.heap.size := by omega
  have ngM : ∀ k, v1.heap.size ≤ k → k ≠ gM → True := fun _ _ _ => trivial
  clear ngM
  clear hgM
  refine (bothSynced_any K1 W1 K2 W2 c1 d1 c2 d2 1 1 ra rb [((at_ : Int), withL zs)] [((at_ : Int), withL zs)] v2 HO2.out.1 HO2.out.2 (by decide) (by decide)).mono ?_
  rintro e v3 ⟨K3, c3, W3, d3, K4, c4, W4, d4, rfl, hO, b3⟩
  have f3 := bthen f2 b3
  have z3 := b3.size
  have HT_3 := Lib.hid (HT_2.out.below b3)
  have HR_3 := Lib.hid (HR_2.out.below b3)
  have HM_3 := Lib.hid (HM_2.out.below b3)
  clear HT_2 HR_2 HM_2
  have HO3 := Lib.hid hO
  clear hO HO2 HO1
  have lt_R := HR_3.out.lt
  obtain ⟨r_R0, r_R1, r_R2, r_R3⟩ := bc4 HR_3.out
  obtain ⟨z_R0, z_R1, z_R2, z_R3⟩ := bf4 HR_3.out
  go_wp21
  refine bodyPost_ret (v := .agg #[.slice K3 22 c3, .slice W3 0 d3, .slice K4 22 c4, .slice W4 0 d4]) (by simp [results, Tryz.results49, go_sem, *]) rfl ?_
  exact ⟨K3, c3, W3, d3, K4, c4, W4, d4, rfl, (((((HO3.out.far (g := gR) (Rg.no (by omega)) 0 _).far (g := gR) (Rg.no (by omega)) 1 _).far (g := gR) (Rg.no (by omega)) 2 _).far (g := gR) (Rg.no (by omega)) 3 _).sub (Rg.sub (by omega) (by simp only [size_set]; omega))), ((((f3).setCell (p := ⟨gR, 0, none⟩) (show w.heap.size ≤ gR by omega) _).setCell (p := ⟨gR, 1, none⟩) (show w.heap.size ≤ gR by omega) _).setCell (p := ⟨gR, 2, none⟩) (show w.heap.size ≤ gR by omega) _).setCell (p := ⟨gR, 3, none⟩) (show w.heap.size ≤ gR by omega) _⟩
set_option maxRecDepth 100000 in
set_option maxHeartbeats 4000000 in
theorem keptRow_any (KA WA KB WB : Option Addr) (bx ox : Nat) (cA dA cB dB m cx : Nat) (ra rb : List (List Int)) (at_ : Nat) (zs : List Int) (w : World) (hA : Dk w KA 22 WA 0 ra []) (hB : Dk w KB 22 WB 0 rb []) (hX : Rw w (.slice (some ⟨bx, ox, none⟩) m cx) zs) (hat : at_ < 22) (hz : rowL zs) (hz48 : zs.length < 48) :
    Calls Tryz.prog 110 #[.agg #[.slice KA 22 cA, .slice WA 0 dA, .slice KB 22 cB, .slice WB 0 dB], .int .i64 (at_ : Nat), .slice (some ⟨bx, ox, none⟩) m cx] w (RetTw w 1 1 ra [((at_ : Int), withL zs)] rb [((at_ : Int), withL zs)] (fun x => .tuple #[x, .bool true])) := by
  have HIA : Hid (On (Rg 0 w.heap.size) (fun x => Dk x KA 22 WA 0 ra []) w) := Lib.hid (On.below_of (fun _ hb => (hA).below hb))
  clear hA
  have HIB : Hid (On (Rg 0 w.heap.size) (fun x => Dk x KB 22 WB 0 rb []) w) := Lib.hid (On.below_of (fun _ hb => (hB).below hb))
  clear hB
  have HIX : Hid (On (Rg 0 w.heap.size) (fun x => Rw x (.slice (some ⟨bx, ox, none⟩) m cx) zs) w) := Lib.hid (On.below_of (fun _ hb => (hX).below hb))
  clear hX
  go_enter Tryz.func110, Tryz.ntmps110
  go_wp2_with fail
  refine calls_named ?_
  rintro v0 hv0
  have f0 : Below w.heap.size w v0 := by rw [hv0]; (repeat' (first | (with_reducible exact Below.refl _ _) | (with_reducible assumption) | (with_reducible refine Below.alloc ?_ ?_ _) | (with_reducible refine Below.drew ?_) | (with_reducible refine Below.setCell ?_ ?_ _) | (with_reducible refine bstep (by assumption) ?_ ?_) | (with_reducible exact Nat.le_refl _) | omega | (simp [*]; done) | (simp [*]; omega)))
  have z0 : w.heap.size + 2 ≤ v0.heap.size := by rw [hv0]; simp [size_set]
  have HT_0 : Hid (Blk v0 w.heap.size 42 #[.slice KA 22 cA, .slice WA 0 dA, .slice KB 22 cB, .slice WB 0 dB]) := by rw [hv0]; exact Lib.hid (((Blk.new_at _ _ _ _ (by simp [size_set]))).alloc _)
  have HR_0 : Hid (Blk v0 (w.heap.size + 1) 42 #[.slice none 0 0, .slice none 0 0, .slice none 0 0, .slice none 0 0]) := by rw [hv0]; exact Lib.hid ((Blk.new_at _ _ _ _ (by simp [size_set])))
  clear hv0
  obtain ⟨gR, hgR⟩ : ∃ q, q = w.heap.size + 1 := ⟨_, rfl⟩
  rw [← hgR] at HR_0
  try rw [← hgR]
  have lgR : w.heap.size ≤ gR := by omega
  have mgR : gR < v0.heap.size := by omega
  have ngR : ∀ k, w.heap.size ≤ k → k ≠ gR → True := fun _ _ _ => trivial
  clear ngR
  obtain ⟨gT, hgT⟩ : ∃ q, q = w.heap.size := ⟨_, rfl⟩
  rw [← hgT] at HT_0
  try rw [← hgT]
  have lgT : w.heap.size ≤ gT := by omega
  have mgT : gT < v0.heap.size := by omega
  have ngT : ∀ k, w.heap.size ≤ k → k ≠ gT → True := fun _ _ _ => trivial
  clear ngT
  have nnTR : gT < gR := by omega
  clear hgT
  clear hgR
  refine (keptOk_yes KA WA KB WB cA 0 dA cB 0 dB ra rb [] [] v0 ((HIA.out).inB f0 (fun _ hk => hk.2)).out ((HIB.out).inB f0 (fun _ hk => hk.2)).out).mono ?_
  rintro e v1 ⟨rfl, b1⟩
  have f1 := bthen f0 b1
  have z1 := b1.size
  have HT_1 := Lib.hid (HT_0.out.below b1)
  have HR_1 := Lib.hid (HR_0.out.below b1)
  clear HT_0 HR_0
  have lt_T := HT_1.out.lt
  obtain ⟨r_T0, r_T1, r_T2, r_T3⟩ := bc4 HT_1.out
  have hnil := fun W : World => eqNil bx ox m cx W
  go_wp2_with fail
  refine (bothWrote_any KA WA KB WB (some ⟨bx, ox, none⟩) cA dA cB dB m cx ra rb at_ zs v1 ((HIA.out).inB f1 (fun _ hk => hk.2)).out ((HIB.out).inB f1 (fun _ hk => hk.2)).out ((HIX.out).inB f1 (fun _ hk => hk.2)).out hat hz hz48).mono ?_
  rintro e v2 ⟨K1, c1, W1, d1, K2, c2, W2, d2, rfl, hO, b2⟩
  have f2 := bthen f1 b2
  have z2 := b2.size
  have HT_2 := Lib.hid (HT_1.out.below b2)
  have HR_2 := Lib.hid (HR_1.out.below b2)
  clear lt_T r_T0 r_T1 r_T2 r_T3
  clear HT_1 HR_1
  have HO2 := Lib.hid hO
  clear hO
  have lt_R := HR_2.out.lt
  obtain ⟨r_R0, r_R1, r_R2, r_R3⟩ := bc4 HR_2.out
  obtain ⟨z_R0, z_R1, z_R2, z_R3⟩ := bf4 HR_2.out
  go_wp21
  refine bodyPost_ret (v := .tuple #[.agg #[.slice K1 22 c1, .slice W1 1 d1, .slice K2 22 c2, .slice W2 1 d2], .bool true]) (by simp [results, Tryz.results110, go_sem, *]) rfl ?_
  exact ⟨K1, c1, W1, d1, K2, c2, W2, d2, rfl, (((((HO2.out.far (g := gR) (Rg.no (by omega)) 0 _).far (g := gR) (Rg.no (by omega)) 1 _).far (g := gR) (Rg.no (by omega)) 2 _).far (g := gR) (Rg.no (by omega)) 3 _).sub (Rg.sub (by omega) (by simp only [size_set]; omega))), ((((f2).setCell (p := ⟨gR, 0, none⟩) (show w.heap.size ≤ gR by omega) _).setCell (p := ⟨gR, 1, none⟩) (show w.heap.size ≤ gR by omega) _).setCell (p := ⟨gR, 2, none⟩) (show w.heap.size ≤ gR by omega) _).setCell (p := ⟨gR, 3, none⟩) (show w.heap.size ≤ gR by omega) _⟩
set_option maxHeartbeats 1000000 in
theorem slotOf_yes (k : Int) (w : World) (h : 1 ≤ k ∧ k < 20) : Calls Tryz.prog 111 #[.int .i64 k] w fun e w' => e = .returned (.int .i64 (2 + k)) ∧ w = w' := by
  have c1 := indexOk_any k w
  rw [show inB k 1 2000 = true from (inB_iff _ _ _).2 (by omega)] at c1
  have c2 := slotOf_small k w (by omega)
  go_enter Tryz.func111, Tryz.ntmps111
  go_wp2_with fail
  refine c1.mono ?_
  rintro e w' ⟨rfl, rfl⟩
  clear c1
  go_wp2_with fail
  refine c2.mono ?_
  rintro e w' ⟨rfl, rfl⟩
  go_wp2
  go_ret
  exact ⟨rfl, by first | rfl | trivial⟩
end Go.Proofs.YtbheflinchabgaaGreatDoor
namespace Go.Proofs.YtbheflinchabgaaGreatDoor
set_option linter.unusedSimpArgs false
set_option linter.unusedVariables false
attribute [local go_sem] n_lt2 n_lt3 n_lt4 n_le2 n_le3
open Go.RowKit
attribute [local go_sem] Ext.cell Ext.frozen
/-- The world w' is v but for new memory; what a region that draws keeps. -/
abbrev KB (v w' : World) : Prop := Below v.heap.size v w' ∧ ∀ b o, b < v.heap.size → w'.cell? ⟨b, o, none⟩ = v.cell? ⟨b, o, none⟩
theorem KB.of {v w' : World} (h : Below v.heap.size v w') : KB v w' := ⟨h, fun b o hb => h.cell (p := ⟨b, o, none⟩) hb⟩
theorem hd_dr {v w' : World} (h : Below v.drew.heap.size v.drew w') : Below v.heap.size v w' := ⟨h.os, h.tape, h.output, h.size, h.block⟩
theorem hd_al {v w' : World} {x : Obj} (h : Below (v.alloc x).heap.size (v.alloc x) w') : Below v.heap.size v w' := bthen ((Below.refl _ _).alloc (Nat.le_refl _) _) h
theorem hd_da {v w' : World} {x : Obj} (h : Below (v.alloc x).drew.heap.size (v.alloc x).drew w') : Below v.heap.size v w' := hd_al (hd_dr h)
theorem hd_ad {v w' : World} {x : Obj} (h : Below (v.drew.alloc x).heap.size (v.drew.alloc x) w') : Below v.heap.size v w' := hd_dr (hd_al h)
theorem nine_sets {w : World} {g : Nat} {e : TypeId} {y0 y1 y2 y3 y4 y5 y6 y7 y8 z0 z1 z2 z3 z4 z5 z6 z7 z8 : Value} (h : Blk w g e #[y0, y1, y2, y3, y4, y5, y6, y7, y8]) : Blk (World.setCell (World.setCell (World.setCell (World.setCell (World.setCell (World.setCell (World.setCell (World.setCell (World.setCell w ⟨g, 0, none⟩ z0) ⟨g, 1, none⟩ z1) ⟨g, 2, none⟩ z2) ⟨g, 3, none⟩ z3) ⟨g, 4, none⟩ z4) ⟨g, 5, none⟩ z5) ⟨g, 6, none⟩ z6) ⟨g, 7, none⟩ z7) ⟨g, 8, none⟩ z8) g e #[z0, z1, z2, z3, z4, z5, z6, z7, z8] := by
  have h9 := ((((((((h.set_ 0 z0).set_ 1 z1).set_ 2 z2).set_ 3 z3).set_ 4 z4).set_ 5 z5).set_ 6 z6).set_ 7 z7).set_ 8 z8
  simp only [List.setIfInBounds_toArray, List.set_cons_zero, List.set_cons_succ] at h9
  exact h9
theorem nine_below {w v : World} {B g : Nat} {z0 z1 z2 z3 z4 z5 z6 z7 z8 : Value} (h : Below B v w) (hg : B ≤ g) : Below B v (World.setCell (World.setCell (World.setCell (World.setCell (World.setCell (World.setCell (World.setCell (World.setCell (World.setCell w ⟨g, 0, none⟩ z0) ⟨g, 1, none⟩ z1) ⟨g, 2, none⟩ z2) ⟨g, 3, none⟩ z3) ⟨g, 4, none⟩ z4) ⟨g, 5, none⟩ z5) ⟨g, 6, none⟩ z6) ⟨g, 7, none⟩ z7) ⟨g, 8, none⟩ z8) :=
  ((((((((h.setCell (p := ⟨g, 0, none⟩) hg z0).setCell (p := ⟨g, 1, none⟩) hg z1).setCell (p := ⟨g, 2, none⟩) hg z2).setCell (p := ⟨g, 3, none⟩) hg z3).setCell (p := ⟨g, 4, none⟩) hg z4).setCell (p := ⟨g, 5, none⟩) hg z5).setCell (p := ⟨g, 6, none⟩) hg z6).setCell (p := ⟨g, 7, none⟩) hg z7).setCell (p := ⟨g, 8, none⟩) hg z8
/-- append of the numbers of a slice onto a row of the call's own, at a step of a region that draws. -/
theorem step_append_rowI {P : Program} {ops : Array Oper} {o : Oper} {a : Act} {w : World} {K : Act → World → Prop} {Q : Exit → Act → World → Prop} {E : Prop}
    (hg : o.guard = none) (s x : Operand) (t : TypeId) (hop : o.op = Op.call { callee := Callee.builtin Builtin.append, args := #[s, x], argTypes := #[t, t] })
    (e : TypeId) (i : TypeInfo) (z : Value) (bytes : Nat) (h1 : P.underlying t = some (.slice e)) (h2 : P.info? e = some i) (h3 : i.zero = some z) (h4 : i.size = 1) (h5 : i.bytes = bytes) (h6 : z.cells.size = 1)
    (lo : Nat) (A : Option Addr) (n c : Nat) (xs : List Int) (hs : a.eval s = .slice A n c) (hR : Row w lo e 1 A n c xs) (B : Option Addr) (m d : Nat) (zs : List Int) (hx : a.eval x = .slice B m d)
    (hm : 0 < m) (b1 : n ≤ 1000) (b2 : m ≤ 1000) (b3 : bytes ≤ 1000) (hlo : lo ≤ w.heap.size) (hS : Sl w 1 B m zs)
    (hK : ∀ g' c' w', Row w' lo e 1 (some ⟨g', 0, none⟩) (n + m) c' (xs ++ zs) → Below lo w w' → K (a.put o.dst (.slice (some ⟨g', 0, none⟩) (n + m) c')) w') :
    if Region.wanted o (yielded ops a.tmps) = true then Oper.wp P o a w K Q else E := by
  obtain ⟨b, off, rfl, hb, hc⟩ := hS.at_ hm
  have hl := hS.len
  refine step_append_lies w hg s x t hop lo e i z 1 bytes h1 h2 h3 h4 h5 h6 (by decide) (.slice A n c) n (ints xs) hs hR ⟨b, off, none⟩ m d (ints zs) hx (by rw [ints_length]; exact hl) (slices_of hS rfl) (ints_oneCell' zs) hm (by unfold maxLen; omega) (by have : (n + m) * bytes ≤ 2000 * 1000 := Nat.mul_le_mul (by omega) b3; omega) hlo _ rfl ?_
  intro g' c' w' hown hgrow _ _
  rw [← ints_append] at hown
  refine hK g' c' w' hown ((Below.refl lo w).grown hgrow hlo (fun k hk => ?_))
  cases A with
  | none => simp [Value.ownBlock] at hk
  | some a0 =>
    simp only [Value.ownBlock, Option.some.injEq] at hk
    subst hk
    exact hR.ge a0 rfl
theorem entP_ok {i : Nat} {e : En} (h : entP i e) (hi : i < 1000) : entryB e.x e.t e.c e.s e.k e.a e.b e.g e.h = true := by
  obtain ⟨h1, h2, h3, h4, h5, h6, h7, h8, h9⟩ := h
  unfold entryB opB
  simp only [h4, if_true, Bool.and_eq_true, inB_iff, decide_eq_true_eq]
  omega
set_option maxRecDepth 100000 in
set_option maxHeartbeats 4000000 in
theorem entNumbers_any (ex et ec es ek ea eb eg eh : Int) (w : World) :
    Calls Tryz.prog 119 #[.agg #[.int .i64 ex, .int .i64 et, .int .i64 ec, .int .i64 es, .int .i64 ek, .int .i64 ea, .int .i64 eb, .int .i64 eg, .int .i64 eh]] w (RetRow w 2 1 9 [ex, et, ec, es, ek, ea, eb, eg, eh]) := by
  obtain ⟨i0, hi0, hz0, hs0, hy0⟩ := info_parts info_Int64
  go_enter Tryz.func119, Tryz.ntmps119
  go_upto_region 2 with fail
  obtain ⟨v0, hv0⟩ : ∃ x : World, x = (((w.alloc (.cells #[.int .i64 ex, .int .i64 et, .int .i64 ec, .int .i64 es, .int .i64 ek, .int .i64 ea, .int .i64 eb, .int .i64 eg, .int .i64 eh] 76)).alloc (.cells #[.int .i64 ex, .int .i64 et, .int .i64 ec, .int .i64 es] 2)).alloc (.cells #[.int .i64 ek, .int .i64 ea, .int .i64 eb, .int .i64 eg, .int .i64 eh, .slice (some ⟨w.heap.size + 1, 0, none⟩) 4 4] 234)) := ⟨_, rfl⟩
  rw [← hv0]
  have f0 : Below w.heap.size w v0 := by rw [hv0]; (repeat' (first | (with_reducible exact Below.refl _ _) | (with_reducible assumption) | (with_reducible refine Below.alloc ?_ ?_ _) | (with_reducible refine Below.drew ?_) | (with_reducible refine Below.setCell ?_ ?_ _) | (with_reducible refine bstep (by assumption) ?_ ?_) | (with_reducible exact Nat.le_refl _) | omega | (simp [*]; done) | (simp [*]; omega)))
  have z0 : w.heap.size + 3 ≤ v0.heap.size := by rw [hv0]; simp [size_set]
  have HE_0 : Hid (Blk v0 w.heap.size 76 #[.int .i64 ex, .int .i64 et, .int .i64 ec, .int .i64 es, .int .i64 ek, .int .i64 ea, .int .i64 eb, .int .i64 eg, .int .i64 eh]) := by rw [hv0]; exact Lib.hid ((((Blk.new_at _ _ _ _ (by simp [size_set]))).alloc _).alloc _)
  have HH_0 : Hid (Blk v0 (w.heap.size + 1) 2 #[.int .i64 ex, .int .i64 et, .int .i64 ec, .int .i64 es]) := by rw [hv0]; exact Lib.hid (((Blk.new_at _ _ _ _ (by simp [size_set]))).alloc _)
  have HM_0 : Hid (Blk v0 (w.heap.size + 2) 234 #[.int .i64 ek, .int .i64 ea, .int .i64 eb, .int .i64 eg, .int .i64 eh, .slice (some ⟨w.heap.size + 1, 0, none⟩) 4 4]) := by rw [hv0]; exact Lib.hid ((Blk.new_at _ _ _ _ (by simp [size_set])))
  clear hv0
  obtain ⟨gM, hgM⟩ : ∃ q, q = w.heap.size + 2 := ⟨_, rfl⟩
  rw [← hgM] at HM_0
  try rw [← hgM]
  have lgM : w.heap.size ≤ gM := by omega
  have mgM : gM < v0.heap.size := by omega
  have ngM : ∀ k, w.heap.size ≤ k → k ≠ gM → True := fun _ _ _ => trivial
  clear ngM
  obtain ⟨gH, hgH⟩ : ∃ q, q = w.heap.size + 1 := ⟨_, rfl⟩
  rw [← hgH] at HH_0
  try rw [← hgH]
  have lgH : w.heap.size ≤ gH := by omega
  have mgH : gH < v0.heap.size := by omega
  have ngH : ∀ k, w.heap.size ≤ k → k ≠ gH → True := fun _ _ _ => trivial
  clear ngH
  rw [← hgH] at HM_0
  obtain ⟨gE, hgE⟩ : ∃ q, q = w.heap.size := ⟨_, rfl⟩
  rw [← hgE] at HE_0
  try rw [← hgE]
  have lgE : w.heap.size ≤ gE := by omega
  have mgE : gE < v0.heap.size := by omega
  have ngE : ∀ k, w.heap.size ≤ k → k ≠ gE → True := fun _ _ _ => trivial
  clear ngE
  have nnEH : gE < gH := by omega
  have nnEM : gE < gM := by omega
  have nnHM : gH < gM := by omega
  clear hgE
  clear hgH
  clear hgM
  have lt_E := HE_0.out.lt
  obtain ⟨r_E0, r_E1, r_E2, r_E3, r_E4, r_E5, r_E6, r_E7, r_E8⟩ := bc9 HE_0.out
  have lt_H := HH_0.out.lt
  obtain ⟨r_H0, r_H1, r_H2, r_H3⟩ := bc4 HH_0.out
  have lt_M := HM_0.out.lt
  obtain ⟨r_M0, r_M1, r_M2, r_M3, r_M4, r_M5⟩ := bc6 HM_0.out
  have HMm := Lib.hid mgH
  have hS0 : ∀ b o, b < v0.heap.size → v0.drew.cell? ⟨b, o, none⟩ = v0.cell? ⟨b, o, none⟩ := fun _ _ _ => rfl
  have hM : ∀ W : World, Below v0.heap.size v0 W → W.cell? ⟨gM, 0, none⟩ = some (.int .i64 ek) ∧ W.cell? ⟨gM, 1, none⟩ = some (.int .i64 ea) ∧ W.cell? ⟨gM, 2, none⟩ = some (.int .i64 eb) ∧ W.cell? ⟨gM, 3, none⟩ = some (.int .i64 eg) ∧ W.cell? ⟨gM, 4, none⟩ = some (.int .i64 eh) ∧ W.cell? ⟨gM, 5, none⟩ = some (.slice (some ⟨gH, 0, none⟩) 4 4) := fun W hb => ⟨(HM_0.out.below hb).cell 0, (HM_0.out.below hb).cell 1, (HM_0.out.below hb).cell 2, (HM_0.out.below hb).cell 3, (HM_0.out.below hb).cell 4, (HM_0.out.below hb).cell 5⟩
  have HM := Lib.hid hM
  clear hM hS0
  have hH1 : gH < gM := by omega
  go_region_held_law (fun w' => w'.cell? ⟨gM, 0, none⟩ = some (.int .i64 ek) ∧ w'.cell? ⟨gM, 1, none⟩ = some (.int .i64 ea) ∧ w'.cell? ⟨gM, 2, none⟩ = some (.int .i64 eb) ∧ w'.cell? ⟨gM, 3, none⟩ = some (.int .i64 eg) ∧ w'.cell? ⟨gM, 4, none⟩ = some (.int .i64 eh) ∧ w'.cell? ⟨gM, 5, none⟩ = some (.slice (some ⟨gH, 0, none⟩) 4 4)) (first | with_reducible assumption | with_reducible exact HM.out _ (Below.drew (Below.refl _ _)) | with_reducible exact HM.out _ E1 | with_reducible exact HM.out _ E5) (first | (go_at_call 131; refine (opNumbers_any ek ea eb eg eh _).mono ?_; rintro e v1 ⟨A1, c1, rfl, R1, b1⟩; have E1 : Below v0.heap.size v0 v1 := (by first | with_reducible exact b1 | with_reducible exact hd_dr b1)) | (refine step_append_lit rfl _ _ 59 rfl 2 i0 _ 8 Tryz.underlying59 hi0 hz0 hs0 hy0 rfl gH 4 rfl [ex, et, ec, es] rfl (lit_cells _ (HH_0.out.below E1) rfl) A1 5 c1 [ek, ea, eb, eg, eh] rfl (by decide) (by decide) (by decide) (by decide) w.heap.size (by have := f0.size; have := E1.size; omega) R1.sl ?_; intro g5 c5 w5 R5 B5; have E5 := bthen E1 B5))
  all_goals
    rename_i hHx
    clear hHx
    go_wp21
    refine bodyPost_ret (v := .slice (some ⟨g5, 0, none⟩) 9 c5) (by simp [results, Tryz.results119, go_sem]) rfl ?_
    exact RetRow.mk R5 (bthen f0 E5)
set_option maxRecDepth 100000 in
set_option maxHeartbeats 4000000 in
theorem slotRow_yes (ex et ec es ek ea eb eg eh : Int) (w : World) (h : entryB ex et ec es ek ea eb eg eh = true) :
    Calls Tryz.prog 83 #[.agg #[.int .i64 ex, .int .i64 et, .int .i64 ec, .int .i64 es, .int .i64 ek, .int .i64 ea, .int .i64 eb, .int .i64 eg, .int .i64 eh]] w (RetRow w 2 1 11 [ex, et, ec, es, ek, ea, eb, eg, eh, ex, ex]) := by
  obtain ⟨i0, hi0, hz0, hs0, hy0⟩ := info_parts info_Int64
  have ce := entryOk_any ex et ec es ek ea eb eg eh
  rw [h] at ce
  clear h
  go_enter Tryz.func83, Tryz.ntmps83
  go_wp2_with fail
  refine calls_named ?_
  rintro v0 hv0
  have f0 : Below w.heap.size w v0 := by rw [hv0]; (repeat' (first | (with_reducible exact Below.refl _ _) | (with_reducible assumption) | (with_reducible refine Below.alloc ?_ ?_ _) | (with_reducible refine Below.drew ?_) | (with_reducible refine Below.setCell ?_ ?_ _) | (with_reducible refine bstep (by assumption) ?_ ?_) | (with_reducible exact Nat.le_refl _) | omega | (simp [*]; done) | (simp [*]; omega)))
  have z0 : w.heap.size + 1 ≤ v0.heap.size := by rw [hv0]; simp [size_set]
  have HE_0 : Hid (Blk v0 w.heap.size 76 #[.int .i64 ex, .int .i64 et, .int .i64 ec, .int .i64 es, .int .i64 ek, .int .i64 ea, .int .i64 eb, .int .i64 eg, .int .i64 eh]) := by rw [hv0]; exact Lib.hid ((Blk.new_at _ _ _ _ (by simp [size_set])))
  clear hv0
  obtain ⟨gE, hgE⟩ : ∃ q, q = w.heap.size := ⟨_, rfl⟩
  rw [← hgE] at HE_0
  try rw [← hgE]
  have lgE : w.heap.size ≤ gE := by omega
  have mgE : gE < v0.heap.size := by omega
  have ngE : ∀ k, w.heap.size ≤ k → k ≠ gE → True := fun _ _ _ => trivial
  clear ngE
  clear hgE
  refine (ce v0).mono ?_
  rintro e v1 ⟨rfl, b1⟩
  have f1 := bthen f0 b1
  have z1 := b1.size
  have HE_1 := Lib.hid (HE_0.out.below b1)
  clear HE_0
  clear ce
  go_upto_region 3 with fail
  have lt_E := HE_1.out.lt
  obtain ⟨r_E0, r_E1, r_E2, r_E3, r_E4, r_E5, r_E6, r_E7, r_E8⟩ := bc9 HE_1.out
  have hE : ∀ W : World, Below v1.heap.size v1 W → W.cell? ⟨gE, 0, none⟩ = some (.int .i64 ex) ∧ W.cell? ⟨gE, 1, none⟩ = some (.int .i64 et) ∧ W.cell? ⟨gE, 2, none⟩ = some (.int .i64 ec) ∧ W.cell? ⟨gE, 3, none⟩ = some (.int .i64 es) ∧ W.cell? ⟨gE, 4, none⟩ = some (.int .i64 ek) ∧ W.cell? ⟨gE, 5, none⟩ = some (.int .i64 ea) ∧ W.cell? ⟨gE, 6, none⟩ = some (.int .i64 eb) ∧ W.cell? ⟨gE, 7, none⟩ = some (.int .i64 eg) ∧ W.cell? ⟨gE, 8, none⟩ = some (.int .i64 eh) := fun W hb => ⟨(HE_1.out.below hb).cell 0, (HE_1.out.below hb).cell 1, (HE_1.out.below hb).cell 2, (HE_1.out.below hb).cell 3, (HE_1.out.below hb).cell 4, (HE_1.out.below hb).cell 5, (HE_1.out.below hb).cell 6, (HE_1.out.below hb).cell 7, (HE_1.out.below hb).cell 8⟩
  have HE := Lib.hid hE
  clear hE
  go_region_held_law (fun w' => w'.cell? ⟨gE, 0, none⟩ = some (.int .i64 ex) ∧ w'.cell? ⟨gE, 1, none⟩ = some (.int .i64 et) ∧ w'.cell? ⟨gE, 2, none⟩ = some (.int .i64 ec) ∧ w'.cell? ⟨gE, 3, none⟩ = some (.int .i64 es) ∧ w'.cell? ⟨gE, 4, none⟩ = some (.int .i64 ek) ∧ w'.cell? ⟨gE, 5, none⟩ = some (.int .i64 ea) ∧ w'.cell? ⟨gE, 6, none⟩ = some (.int .i64 eb) ∧ w'.cell? ⟨gE, 7, none⟩ = some (.int .i64 eg) ∧ w'.cell? ⟨gE, 8, none⟩ = some (.int .i64 eh)) (first | with_reducible assumption | with_reducible exact HE.out _ (Below.drew (Below.refl _ _)) | with_reducible exact HE.out _ (Below.alloc (Below.drew (Below.refl _ _)) (Nat.le_refl _) _) | with_reducible exact HE.out _ (Below.drew (Below.alloc (Below.refl _ _) (Nat.le_refl _) _)) | with_reducible exact HE.out _ E2 | with_reducible exact HE.out _ (Below.alloc E2 E2.size _) | with_reducible exact HE.out _ E5) (first | (go_at_call 119; refine (entNumbers_any ex et ec es ek ea eb eg eh _).mono ?_; rintro e v2 ⟨A1, c1, rfl, R1, b2⟩; have E2 : Below v1.heap.size v1 v2 := (by first | with_reducible exact b2 | with_reducible exact hd_dr b2 | with_reducible exact hd_da b2 | with_reducible exact hd_ad b2 | with_reducible exact hd_al b2)) | (refine step_append_rowI rfl _ _ 59 rfl 2 i0 _ 8 Tryz.underlying59 hi0 hz0 hs0 hy0 rfl v1.heap.size A1 9 c1 [ex, et, ec, es, ek, ea, eb, eg, eh] rfl (by first | exact R1.mono (by simp) | exact (R1.mono (by simp)).alloc _) (some ⟨_, 0, none⟩) 2 2 [ex, ex] rfl (by decide) (by decide) (by decide) (by decide) (by have := E2.size; simp; omega) (by first | exact (row_lit (lo := 0) [ex, ex] (Blk.new_at _ _ _ _ rfl) rfl (Nat.zero_le _) (by simp [maxLen]) rfl).sl | exact ((row_lit (lo := 0) [ex, ex] (Blk.below (Blk.drew (Blk.new_at _ _ _ _ rfl)) b2) rfl (Nat.zero_le _) (by simp [maxLen]) rfl).sl) | exact ((row_lit (lo := 0) [ex, ex] (Blk.below (Blk.new_at _ _ _ _ (by rfl)) b2) rfl (Nat.zero_le _) (by simp [maxLen]) rfl).sl)) ?_; intro g5 c5 w5 R5 B5; have E5 : Below v1.heap.size v1 w5 := (by first | exact E2.trans B5 | exact (E2.alloc E2.size _).trans B5)))
  all_goals
    rename_i hHx
    clear hHx
    go_wp21
    refine bodyPost_ret (v := .slice (some ⟨g5, 0, none⟩) 11 c5) (by simp [results, Tryz.results83, go_sem]) rfl ?_
    exact RetRow.mk (R5.mono (by omega)) (bthen f1 E5)
end Go.Proofs.YtbheflinchabgaaGreatDoor
namespace Go.Proofs.YtbheflinchabgaaGreatDoor
set_option linter.unusedSimpArgs false
set_option linter.unusedVariables false
attribute [local go_sem] n_lt2 n_lt3 n_lt4 n_le2 n_le3
open Go.RowKit
attribute [local go_sem] Ext.cell Ext.frozen
theorem slotOf_nat (n p : Nat) (w : World) (h : 1 ≤ n ∧ n < 20) (hp : p = 2 + n) : Calls Tryz.prog 111 #[.int .i64 (n : Nat)] w fun e w' => e = .returned (.int .i64 (p : Int)) ∧ w = w' :=
  (slotOf_yes n w (by omega)).mono fun e w' hq => ⟨by rw [hq.1, hp]; simp, hq.2⟩
set_option maxRecDepth 100000 in
set_option maxHeartbeats 4000000 in
theorem keptEntry_yes (KA WA KB WB : Option Addr) (cA dA cB dB n : Nat) (ra rb : List (List Int)) (et ec es ek ea eb eg eh : Int) (w : World) (hA : Dk w KA 22 WA 0 ra []) (hB : Dk w KB 22 WB 0 rb []) (hn : 1 ≤ n ∧ n < 20) (hE : entryB n et ec es ek ea eb eg eh = true) (hz : rowL [(n : Int), et, ec, es, ek, ea, eb, eg, eh, (n : Int), (n : Int)]) :
    Calls Tryz.prog 72 #[.agg #[.slice KA 22 cA, .slice WA 0 dA, .slice KB 22 cB, .slice WB 0 dB], .agg #[.int .i64 (n : Nat), .int .i64 et, .int .i64 ec, .int .i64 es, .int .i64 ek, .int .i64 ea, .int .i64 eb, .int .i64 eg, .int .i64 eh]] w (RetTw w 1 1 ra [(((2 + n : Nat) : Int), withL [(n : Int), et, ec, es, ek, ea, eb, eg, eh, (n : Int), (n : Int)])] rb [(((2 + n : Nat) : Int), withL [(n : Int), et, ec, es, ek, ea, eb, eg, eh, (n : Int), (n : Int)])] (fun x => .tuple #[x, .bool true])) := by
  have HE := Lib.hid hE
  have HZ := Lib.hid hz
  obtain ⟨p, hp⟩ : ∃ p, p = 2 + n := ⟨_, rfl⟩
  have hn22 : p < 22 := by omega
  rw [← hp]
  have HP := Lib.hid hp
  clear hp
  clear hE hz
  have HIA : Hid (On (Rg 0 w.heap.size) (fun x => Dk x KA 22 WA 0 ra []) w) := Lib.hid (On.below_of (fun _ hb => (hA).below hb))
  clear hA
  have HIB : Hid (On (Rg 0 w.heap.size) (fun x => Dk x KB 22 WB 0 rb []) w) := Lib.hid (On.below_of (fun _ hb => (hB).below hb))
  clear hB
  go_enter Tryz.func72, Tryz.ntmps72
  go_upto_region 1 with fail
  obtain ⟨v0, hv0⟩ : ∃ x : World, x = (((w.alloc (.cells #[.slice KA 22 cA, .slice WA 0 dA, .slice KB 22 cB, .slice WB 0 dB] 42)).alloc (.cells #[.int .i64 (n : Nat), .int .i64 et, .int .i64 ec, .int .i64 es, .int .i64 ek, .int .i64 ea, .int .i64 eb, .int .i64 eg, .int .i64 eh] 76)).alloc (.cells #[.slice none 0 0, .slice none 0 0, .slice none 0 0, .slice none 0 0] 42)) := ⟨_, rfl⟩
  rw [← hv0]
  have f0 : Below w.heap.size w v0 := by rw [hv0]; (repeat' (first | (with_reducible exact Below.refl _ _) | (with_reducible assumption) | (with_reducible refine Below.alloc ?_ ?_ _) | (with_reducible refine Below.drew ?_) | (with_reducible refine Below.setCell ?_ ?_ _) | (with_reducible refine bstep (by assumption) ?_ ?_) | (with_reducible exact Nat.le_refl _) | omega | (simp [*]; done) | (simp [*]; omega)))
  have z0 : w.heap.size + 3 ≤ v0.heap.size := by rw [hv0]; simp [size_set]
  have HT_0 : Hid (Blk v0 w.heap.size 42 #[.slice KA 22 cA, .slice WA 0 dA, .slice KB 22 cB, .slice WB 0 dB]) := by rw [hv0]; exact Lib.hid ((((Blk.new_at _ _ _ _ (by simp [size_set]))).alloc _).alloc _)
  have HE_0 : Hid (Blk v0 (w.heap.size + 1) 76 #[.int .i64 (n : Nat), .int .i64 et, .int .i64 ec, .int .i64 es, .int .i64 ek, .int .i64 ea, .int .i64 eb, .int .i64 eg, .int .i64 eh]) := by rw [hv0]; exact Lib.hid (((Blk.new_at _ _ _ _ (by simp [size_set]))).alloc _)
  have HR_0 : Hid (Blk v0 (w.heap.size + 2) 42 #[.slice none 0 0, .slice none 0 0, .slice none 0 0, .slice none 0 0]) := by rw [hv0]; exact Lib.hid ((Blk.new_at _ _ _ _ (by simp [size_set])))
  clear hv0
  obtain ⟨gR, hgR⟩ : ∃ q, q = w.heap.size + 2 := ⟨_, rfl⟩
  rw [← hgR] at HR_0
  try rw [← hgR]
  have lgR : w.heap.size ≤ gR := by omega
  have mgR : gR < v0.heap.size := by omega
  have ngR : ∀ k, w.heap.size ≤ k → k ≠ gR → True := fun _ _ _ => trivial
  clear ngR
  obtain ⟨gE, hgE⟩ : ∃ q, q = w.heap.size + 1 := ⟨_, rfl⟩
  rw [← hgE] at HE_0
  try rw [← hgE]
  have lgE : w.heap.size ≤ gE := by omega
  have mgE : gE < v0.heap.size := by omega
  have ngE : ∀ k, w.heap.size ≤ k → k ≠ gE → True := fun _ _ _ => trivial
  clear ngE
  obtain ⟨gT, hgT⟩ : ∃ q, q = w.heap.size := ⟨_, rfl⟩
  rw [← hgT] at HT_0
  try rw [← hgT]
  have lgT : w.heap.size ≤ gT := by omega
  have mgT : gT < v0.heap.size := by omega
  have ngT : ∀ k, w.heap.size ≤ k → k ≠ gT → True := fun _ _ _ => trivial
  clear ngT
  have nnTE : gT < gE := by omega
  have nnTR : gT < gR := by omega
  have nnER : gE < gR := by omega
  clear hgT
  clear hgE
  clear hgR
  have lt_T := HT_0.out.lt
  obtain ⟨r_T0, r_T1, r_T2, r_T3⟩ := bc4 HT_0.out
  have lt_E := HE_0.out.lt
  obtain ⟨r_E0, r_E1, r_E2, r_E3, r_E4, r_E5, r_E6, r_E7, r_E8⟩ := bc9 HE_0.out
  have lt_R := HR_0.out.lt
  obtain ⟨r_R0, r_R1, r_R2, r_R3⟩ := bc4 HR_0.out
  obtain ⟨z_R0, z_R1, z_R2, z_R3⟩ := bf4 HR_0.out
  have hS0 : ∀ b o, b < gR → v0.cell? ⟨b, o, none⟩ = v0.cell? ⟨b, o, none⟩ := fun _ _ _ => rfl
  have hA0 := Lib.hid (On.below_of (fun _ hb => (((HIA.out).inB f0 (fun _ hk => hk.2)).out).below hb))
  have hB0 := Lib.hid (On.below_of (fun _ hb => (((HIB.out).inB f0 (fun _ hk => hk.2)).out).below hb))
  go_region_held_law (fun w' => ∀ b o, b < gR → w'.cell? ⟨b, o, none⟩ = v0.cell? ⟨b, o, none⟩) (repeat' (first | with_reducible assumption | with_reducible exact Nat.le_refl _ | with_reducible exact hS0 | with_reducible refine rd_drew ?_ | with_reducible refine rd_set ?_ ?_ _ _)) (first | (go_at_call 111; refine (slotOf_nat n p _ hn HP.out).mono ?_; rintro e w' ⟨rfl, rfl⟩) | (go_at_call 110; have hcc := keptRow_any KA WA KB WB bx ox cA dA cB dB 11 c1 ra rb p [(n : Int), et, ec, es, ek, ea, eb, eg, eh, (n : Int), (n : Int)] v1 (hA0.out.below E1).out (hB0.out.below E1).out RW1.out hn22 HZ.out (by simp); (with_reducible refine hcc.mono ?_); clear hcc; rintro e v2 ⟨K1, c1', W1, d1, K2, c2, W2, d2, rfl, hO, E2⟩; have HO2 := Lib.hid hO; have hS2 : ∀ b o, b < gR → v2.cell? ⟨b, o, none⟩ = v0.cell? ⟨b, o, none⟩ := fun b o hb => (E2.cell (p := ⟨b, o, none⟩) (by have := E1.size; show b < _; omega)).trans (hS1 b o hb); have KR2 := (HR_0.out.below E1).below E2; have x0 := KR2.cell 0; have y0 := KR2.frozen 0; have x1 := KR2.cell 1; have y1 := KR2.frozen 1; have x2 := KR2.cell 2; have y2 := KR2.frozen 2; have x3 := KR2.cell 3; have y3 := KR2.frozen 3; have yl := KR2.lt; clear hO) | (go_at_call 83; refine (slotRow_yes n et ec es ek ea eb eg eh _ HE.out).mono ?_; rintro e v1 ⟨A1, c1, rfl, R1, b1⟩; have E1 : Below v0.heap.size v0 v1 := (by first | with_reducible exact b1 | with_reducible exact hd_dr b1); obtain ⟨bx, ox, rfl, -, -⟩ := R1.sl.at_ (by decide); have RW1 : Hid (Rw v1 (.slice (some ⟨bx, ox, none⟩) 11 c1) [(n : Int), et, ec, es, ek, ea, eb, eg, eh, (n : Int), (n : Int)]) := Lib.hid (Rw.of_row R1); have hS1 : ∀ b o, b < gR → v1.cell? ⟨b, o, none⟩ = v0.cell? ⟨b, o, none⟩ := fun b o hb => E1.cell (p := ⟨b, o, none⟩) (by show b < _; omega); clear R1 b1))
  all_goals
    rename_i hHx
    clear hHx hS0 hS1 hS2
    have F2 := bthen (bthen f0 E1) E2
    have q1 := E1.size
    have q2 := E2.size
    go_wp21
    refine bodyPost_ret (v := .tuple #[.agg #[.slice K1 22 c1', .slice W1 1 d1, .slice K2 22 c2, .slice W2 1 d2], .bool true]) (by simp [results, Tryz.results72, go_sem, *]) rfl ?_
    exact ⟨K1, c1', W1, d1, K2, c2, W2, d2, rfl, (((((HO2.out.far (g := gR) (Rg.no (by omega)) 0 _).far (g := gR) (Rg.no (by omega)) 1 _).far (g := gR) (Rg.no (by omega)) 2 _).far (g := gR) (Rg.no (by omega)) 3 _).sub (Rg.sub (by omega) (by simp only [size_set]; omega))), (((F2.setCell (p := ⟨gR, 0, none⟩) (show w.heap.size ≤ gR by omega) _).setCell (p := ⟨gR, 1, none⟩) (show w.heap.size ≤ gR by omega) _).setCell (p := ⟨gR, 2, none⟩) (show w.heap.size ≤ gR by omega) _).setCell (p := ⟨gR, 3, none⟩) (show w.heap.size ≤ gR by omega) _⟩
theorem drew_size2 (v : World) : v.heap.size = v.drew.heap.size := rfl
theorem blk_b2 {w w' : World} {g : Nat} {e : TypeId} {cs : Array Value} (hb : Below w.heap.size w w') (h : Blk w g e cs) : Blk w' g e cs := h.below hb
theorem hd_alloc {W v : World} {g : Nat} (h : ∀ b o, b < g → v.cell? ⟨b, o, none⟩ = W.cell? ⟨b, o, none⟩) (hz : g ≤ v.heap.size) (x : Obj) : ∀ b o, b < g → (v.alloc x).cell? ⟨b, o, none⟩ = W.cell? ⟨b, o, none⟩ :=
  fun b o hb => (((Below.refl v.heap.size v).alloc (Nat.le_refl _) x).cell (p := ⟨b, o, none⟩) (Nat.lt_of_lt_of_le hb hz)).trans (h b o hb)
theorem Sl.sub9 {w : World} {b off n k m : Nat} {zs ys : List Int} (h : Sl w 1 (some ⟨b, off, none⟩) n zs) (hk : k + m ≤ n) (hy : (zs.drop k).take m = ys) : Sl w 1 (some ⟨b, off + k, none⟩) m ys := by
  have h1 := sl_tail h (show k ≤ n by omega)
  have := h1.sub 0 m (by omega)
  simpa [hy] using this
theorem Sl.cells {w : World} {b off n : Nat} {zs : List Int} (h : Sl w 1 (some ⟨b, off, none⟩) n zs) (hn : 0 < n) : b < w.heap.size ∧ ∀ j, j < n → w.cell? ⟨b, off + j, none⟩ = some (.int .i64 (zs.getD j 0)) := by
  obtain ⟨b', off', hA, hb, hc⟩ := h.at_ hn
  injection hA with hA
  injection hA with h1 h2
  subst h1 h2
  exact ⟨hb, fun j hj => hc j (by omega)⟩
set_option maxRecDepth 100000 in
set_option maxHeartbeats 4000000 in
theorem rowEntry_yes (b off cap : Nat) (ex et ec es ek ea eb eg eh : Int) (w : World) (hS : Sl w 1 (some ⟨b, off, none⟩) 9 [ex, et, ec, es, ek, ea, eb, eg, eh]) (hcap : 9 ≤ cap) (hcm : cap ≤ maxLen) (hE : entryB ex et ec es ek ea eb eg eh = true) :
    Calls Tryz.prog 130 #[.slice (some ⟨b, off, none⟩) 9 cap] w fun e w' => e = .returned (.tuple #[.agg #[.int .i64 ex, .int .i64 et, .int .i64 ec, .int .i64 es, .int .i64 ek, .int .i64 ea, .int .i64 eb, .int .i64 eg, .int .i64 eh], .bool true]) ∧ Below w.heap.size w w' := by
  have ce := entryOk_any ex et ec es ek ea eb eg eh
  rw [hE] at ce
  have hlt := (hS.cells (by decide)).1
  unfold maxLen at hcm
  clear hE
  have HIX : Hid (On (Rg 0 w.heap.size) (fun x => Sl x 1 (some ⟨b, off, none⟩) 9 [ex, et, ec, es, ek, ea, eb, eg, eh]) w) := Lib.hid (On.below_of (fun _ hb => (hS).below hb))
  clear hS
  go_enter Tryz.func130, Tryz.ntmps130
  go_upto_region 3 with fail
  obtain ⟨v0, hv0⟩ : ∃ x : World, x = (w.alloc (.cells #[.int .i64 0, .int .i64 0, .int .i64 0, .int .i64 0, .int .i64 0, .int .i64 0, .int .i64 0, .int .i64 0, .int .i64 0] 76)) := ⟨_, rfl⟩
  rw [← hv0]
  have f0 : Below w.heap.size w v0 := by rw [hv0]; (repeat' (first | (with_reducible exact Below.refl _ _) | (with_reducible assumption) | (with_reducible refine Below.alloc ?_ ?_ _) | (with_reducible refine Below.drew ?_) | (with_reducible refine Below.setCell ?_ ?_ _) | (with_reducible refine bstep (by assumption) ?_ ?_) | (with_reducible exact Nat.le_refl _) | omega | (simp [*]; done) | (simp [*]; omega)))
  have z0 : w.heap.size + 1 ≤ v0.heap.size := by rw [hv0]; simp [size_set]
  have HR_0 : Hid (Blk v0 w.heap.size 76 #[.int .i64 0, .int .i64 0, .int .i64 0, .int .i64 0, .int .i64 0, .int .i64 0, .int .i64 0, .int .i64 0, .int .i64 0]) := by rw [hv0]; exact Lib.hid ((Blk.new_at _ _ _ _ (by simp [size_set])))
  clear hv0
  obtain ⟨gR, hgR⟩ : ∃ q, q = w.heap.size := ⟨_, rfl⟩
  rw [← hgR] at HR_0
  try rw [← hgR]
  have lgR : w.heap.size ≤ gR := by omega
  have mgR : gR < v0.heap.size := by omega
  have ngR : ∀ k, w.heap.size ≤ k → k ≠ gR → True := fun _ _ _ => trivial
  clear ngR
  clear hgR
  have hX0 := Lib.hid ((HIX.out).inB f0 (fun _ hk => hk.2)).out
  have c0 := (hX0.out.cells (by decide)).2 0 (by decide)
  have c1 := (hX0.out.cells (by decide)).2 1 (by decide)
  have c2 := (hX0.out.cells (by decide)).2 2 (by decide)
  have c3 := (hX0.out.cells (by decide)).2 3 (by decide)
  simp only [Nat.add_zero, List.getD_cons_zero, List.getD_cons_succ] at c0 c1 c2 c3
  have S5 : Hid (Sl v0 1 (some ⟨b, off + 4, none⟩) 5 [ek, ea, eb, eg, eh]) := Lib.hid (hX0.out.sub9 (k := 4) (m := 5) (by decide) rfl)
  have hsl : ∀ wz : World, (Instr.slice 59 (.slice (some ⟨b, off, none⟩) 9 cap) (some (.int .i64 4)) none none).run Tryz.prog wz = .ok (.slice (some ⟨b, off + 4, none⟩) 5 (cap - 4)) wz := fun wz => by
    have hc2 : ¬ cap = 4 := by omega
    go_simp
  have hb0 : b < gR := by omega
  have hS0 : ∀ b o, b < gR → v0.cell? ⟨b, o, none⟩ = v0.cell? ⟨b, o, none⟩ := fun _ _ _ => rfl
  have hg0 : gR ≤ v0.heap.size := by omega
  clear hcap hcm
  go_cut [4] from 5 (fun px wx => ∃ g, px = .pointer (some ⟨g, 0, none⟩) ∧ v0.heap.size ≤ g ∧ Blk wx g 76 #[.int .i64 ex, .int .i64 et, .int .i64 ec, .int .i64 es, .int .i64 ek, .int .i64 ea, .int .i64 eb, .int .i64 eg, .int .i64 eh] ∧ Below v0.heap.size v0 wx)
  case first =>
    go_region_held_law (fun w' => ∀ b o, b < gR → w'.cell? ⟨b, o, none⟩ = v0.cell? ⟨b, o, none⟩) (repeat' (first | with_reducible assumption | with_reducible exact Nat.le_refl _ | with_reducible exact hS0 | with_reducible refine rd_drew ?_ | with_reducible refine hd_alloc ?_ ?_ _ | with_reducible refine rd_set ?_ ?_ _ _)) ((go_at_call 27; refine (opOf_any b (off + 4) (cap - 4) ek ea eb eg eh _ (by first | with_reducible exact S5.out | with_reducible exact Sl.drew S5.out | with_reducible exact Sl.drew (Sl.alloc S5.out _) | with_reducible exact Sl.alloc (Sl.drew S5.out) _)).mono ?_; rintro e v1 ⟨rfl, b1⟩; have E1 : Below v0.heap.size v0 v1 := (by first | with_reducible exact b1 | with_reducible exact hd_dr b1 | with_reducible exact hd_da b1 | with_reducible exact hd_ad b1 | with_reducible exact hd_al b1); have zE1 := E1.size; have zE2 : gR ≤ v1.heap.size := Nat.le_trans hg0 zE1; have hS1 : ∀ b o, b < gR → v1.cell? ⟨b, o, none⟩ = v0.cell? ⟨b, o, none⟩ := fun b o hb => E1.cell (p := ⟨b, o, none⟩) (Nat.lt_of_lt_of_le hb hg0); (first | (have KB : Blk v1 v0.heap.size 76 #[.int .i64 0, .int .i64 0, .int .i64 0, .int .i64 0, .int .i64 0, .int .i64 0, .int .i64 0, .int .i64 0, .int .i64 0] := by  with_reducible exact blk_b2 b1 (Blk.new_at _ _ _ _ rfl)) | (have KB : Blk v1 v0.heap.size 76 #[.int .i64 0, .int .i64 0, .int .i64 0, .int .i64 0, .int .i64 0, .int .i64 0, .int .i64 0, .int .i64 0, .int .i64 0] := by  with_reducible exact blk_b2 b1 (Blk.drew (Blk.new_at _ _ _ _ rfl))) | (have KB : Blk v1 v0.heap.size 76 #[.int .i64 0, .int .i64 0, .int .i64 0, .int .i64 0, .int .i64 0, .int .i64 0, .int .i64 0, .int .i64 0, .int .i64 0] := by  with_reducible exact blk_b2 b1 (Blk.new_at _ _ _ _ (drew_size2 _))) | skip); (try (have kb0 := KB.cell 0)); (try (have kf0 := KB.frozen 0)); (try (have kb1 := KB.cell 1)); (try (have kf1 := KB.frozen 1)); (try (have kb2 := KB.cell 2)); (try (have kf2 := KB.frozen 2)); (try (have kb3 := KB.cell 3)); (try (have kf3 := KB.frozen 3)); (try (have kb4 := KB.cell 4)); (try (have kf4 := KB.frozen 4)); (try (have kb5 := KB.cell 5)); (try (have kf5 := KB.frozen 5)); (try (have kb6 := KB.cell 6)); (try (have kf6 := KB.frozen 6)); (try (have kb7 := KB.cell 7)); (try (have kf7 := KB.frozen 7)); (try (have kb8 := KB.cell 8)); (try (have kf8 := KB.frozen 8)); (try (have kbl := KB.lt))))
    all_goals
      go_wp2_with fail
      go_meet
      first
        | ((with_reducible refine ⟨_, rfl, zE1, Blk.new_at _ _ _ _ rfl, ?_⟩); (exact E1.alloc zE1 _))
        | (with_reducible exact ⟨_, rfl, Nat.le_refl _, nine_sets KB, nine_below E1 (Nat.le_refl _)⟩)
  case rest =>
    obtain ⟨gE, rfl, hgE, KE, b1⟩ := hcut
    rename World => v1
    clear c0 c1 c2 c3 hsl hS0 S5 hX0
    have HKE := Lib.hid KE
    clear KE
    have f1 := bthen f0 b1
    have z1 := b1.size
    have HR_1 := Lib.hid (HR_0.out.below b1)
    clear HR_0
    have HE_1 := HKE
    clear HKE
    have lE1 := HE_1.out.lt
    have lt_E := HE_1.out.lt
    obtain ⟨r_E0, r_E1, r_E2, r_E3, r_E4, r_E5, r_E6, r_E7, r_E8⟩ := bc9 HE_1.out
    go_wp2_with fail
    refine (ce v1).mono ?_
    rintro e v2 ⟨rfl, b2⟩
    have f2 := bthen f1 b2
    have z2 := b2.size
    have HR_2 := Lib.hid (HR_1.out.below b2)
    have HE_2 := Lib.hid (HE_1.out.below b2)
    clear lt_E r_E0 r_E1 r_E2 r_E3 r_E4 r_E5 r_E6 r_E7 r_E8
    clear HR_1 HE_1
    clear ce
    have lt_E := HE_2.out.lt
    obtain ⟨r_E0, r_E1, r_E2, r_E3, r_E4, r_E5, r_E6, r_E7, r_E8⟩ := bc9 HE_2.out
    have lt_R := HR_2.out.lt
    obtain ⟨r_R0, r_R1, r_R2, r_R3, r_R4, r_R5, r_R6, r_R7, r_R8⟩ := bc9 HR_2.out
    obtain ⟨z_R0, z_R1, z_R2, z_R3, z_R4, z_R5, z_R6, z_R7, z_R8⟩ := bf9 HR_2.out
    have ngRE : ¬ gR = gE := by omega
    have ngER : ¬ gE = gR := by omega
    go_wp21
    refine bodyPost_ret (v := .tuple #[.agg #[.int .i64 ex, .int .i64 et, .int .i64 ec, .int .i64 es, .int .i64 ek, .int .i64 ea, .int .i64 eb, .int .i64 eg, .int .i64 eh], .bool true]) (by simp [results, Tryz.results130, go_sem, *]) rfl ?_
    exact ⟨rfl, (((((((((f2).setCell (p := ⟨gR, 0, none⟩) (show w.heap.size ≤ gR by omega) _).setCell (p := ⟨gR, 1, none⟩) (show w.heap.size ≤ gR by omega) _).setCell (p := ⟨gR, 2, none⟩) (show w.heap.size ≤ gR by omega) _).setCell (p := ⟨gR, 3, none⟩) (show w.heap.size ≤ gR by omega) _).setCell (p := ⟨gR, 4, none⟩) (show w.heap.size ≤ gR by omega) _).setCell (p := ⟨gR, 5, none⟩) (show w.heap.size ≤ gR by omega) _).setCell (p := ⟨gR, 6, none⟩) (show w.heap.size ≤ gR by omega) _).setCell (p := ⟨gR, 7, none⟩) (show w.heap.size ≤ gR by omega) _).setCell (p := ⟨gR, 8, none⟩) (show w.heap.size ≤ gR by omega) _⟩
set_option maxRecDepth 100000 in
set_option maxHeartbeats 4000000 in
theorem rowSlot_yes (b off cap : Nat) (ex et ec es ek ea eb eg eh : Int) (w : World) (hS : Sl w 1 (some ⟨b, off, none⟩) 11 [ex, et, ec, es, ek, ea, eb, eg, eh, ex, ex]) (hcap : 11 ≤ cap) (hcm : cap ≤ maxLen) (hE : entryB ex et ec es ek ea eb eg eh = true) :
    Calls Tryz.prog 118 #[.slice (some ⟨b, off, none⟩) 11 cap] w fun e w' => e = .returned (.tuple #[.agg #[.int .i64 ex, .int .i64 et, .int .i64 ec, .int .i64 es, .int .i64 ek, .int .i64 ea, .int .i64 eb, .int .i64 eg, .int .i64 eh], .bool true]) ∧ Below w.heap.size w w' := by
  have HE := Lib.hid hE
  have hcm2 := Lib.hid hcm
  unfold maxLen at hcm
  clear hE
  have HIX : Hid (On (Rg 0 w.heap.size) (fun x => Sl x 1 (some ⟨b, off, none⟩) 11 [ex, et, ec, es, ek, ea, eb, eg, eh, ex, ex]) w) := Lib.hid (On.below_of (fun _ hb => (hS).below hb))
  clear hS
  go_enter Tryz.func118, Tryz.ntmps118
  go_wp2_with fail
  refine calls_named ?_
  rintro v0 hv0
  have f0 : Below w.heap.size w v0 := by rw [hv0]; (repeat' (first | (with_reducible exact Below.refl _ _) | (with_reducible assumption) | (with_reducible refine Below.alloc ?_ ?_ _) | (with_reducible refine Below.drew ?_) | (with_reducible refine Below.setCell ?_ ?_ _) | (with_reducible refine bstep (by assumption) ?_ ?_) | (with_reducible exact Nat.le_refl _) | omega | (simp [*]; done) | (simp [*]; omega)))
  have z0 : w.heap.size + 1 ≤ v0.heap.size := by rw [hv0]; simp [size_set]
  have HR_0 : Hid (Blk v0 w.heap.size 76 #[.int .i64 0, .int .i64 0, .int .i64 0, .int .i64 0, .int .i64 0, .int .i64 0, .int .i64 0, .int .i64 0, .int .i64 0]) := by rw [hv0]; exact Lib.hid ((Blk.new_at _ _ _ _ (by simp [size_set])))
  clear hv0
  obtain ⟨gR, hgR⟩ : ∃ q, q = w.heap.size := ⟨_, rfl⟩
  rw [← hgR] at HR_0
  try rw [← hgR]
  have lgR : w.heap.size ≤ gR := by omega
  have mgR : gR < v0.heap.size := by omega
  have ngR : ∀ k, w.heap.size ≤ k → k ≠ gR → True := fun _ _ _ => trivial
  clear ngR
  clear hgR
  refine (rowEntry_yes b off cap ex et ec es ek ea eb eg eh v0 ((((HIX.out).inB f0 (fun _ hk => hk.2)).out).sub9 (k := 0) (m := 9) (by decide) rfl) (by omega) hcm2.out HE.out).mono ?_
  rintro e v1 ⟨rfl, b1⟩
  have f1 := bthen f0 b1
  have z1 := b1.size
  have HR_1 := Lib.hid (HR_0.out.below b1)
  clear HR_0
  go_upto_region 4 with fail
  obtain ⟨v2, hv2⟩ : ∃ x : World, x = (v1.alloc (.cells #[.int .i64 ex, .int .i64 et, .int .i64 ec, .int .i64 es, .int .i64 ek, .int .i64 ea, .int .i64 eb, .int .i64 eg, .int .i64 eh] 76)) := ⟨_, rfl⟩
  rw [← hv2]
  have f2 : Below w.heap.size w v2 := by rw [hv2]; (repeat' (first | (with_reducible exact Below.refl _ _) | (with_reducible assumption) | (with_reducible refine Below.alloc ?_ ?_ _) | (with_reducible refine Below.drew ?_) | (with_reducible refine Below.setCell ?_ ?_ _) | (with_reducible refine bstep (by assumption) ?_ ?_) | (with_reducible exact Nat.le_refl _) | omega | (simp [*]; done) | (simp [*]; omega)))
  have z2 : v1.heap.size + 1 ≤ v2.heap.size := by rw [hv2]; simp [size_set]
  have HR_2 : Hid (Blk v2 gR 76 #[.int .i64 0, .int .i64 0, .int .i64 0, .int .i64 0, .int .i64 0, .int .i64 0, .int .i64 0, .int .i64 0, .int .i64 0]) := by rw [hv2]; exact Lib.hid ((HR_1.out).alloc _)
  have HE_2 : Hid (Blk v2 v1.heap.size 76 #[.int .i64 ex, .int .i64 et, .int .i64 ec, .int .i64 es, .int .i64 ek, .int .i64 ea, .int .i64 eb, .int .i64 eg, .int .i64 eh]) := by rw [hv2]; exact Lib.hid ((Blk.new_at _ _ _ _ (by simp [size_set])))
  clear hv2 HR_1
  obtain ⟨gE, hgE⟩ : ∃ q, q = v1.heap.size := ⟨_, rfl⟩
  rw [← hgE] at HE_2
  try rw [← hgE]
  have lgE : v1.heap.size ≤ gE := by omega
  have mgE : gE < v2.heap.size := by omega
  have ngE : ∀ k, v1.heap.size ≤ k → k ≠ gE → True := fun _ _ _ => trivial
  clear ngE
  clear hgE
  have hX2 := ((HIX.out).inB f2 (fun _ hk => hk.2)).out
  have c9 := (hX2.cells (by decide)).2 9 (by decide)
  have c10 := (hX2.cells (by decide)).2 10 (by decide)
  have hlt := (hX2.cells (by decide)).1
  simp only [List.getD_cons_zero, List.getD_cons_succ] at c9 c10
  clear hX2
  have lt_E := HE_2.out.lt
  obtain ⟨r_E0, r_E1, r_E2, r_E3, r_E4, r_E5, r_E6, r_E7, r_E8⟩ := bc9 HE_2.out
  go_quiet (fail)
  clear lt_E r_E0 r_E1 r_E2 r_E3 r_E4 r_E5 r_E6 r_E7 r_E8 c9 c10 hlt
  have lt_E := HE_2.out.lt
  obtain ⟨r_E0, r_E1, r_E2, r_E3, r_E4, r_E5, r_E6, r_E7, r_E8⟩ := bc9 HE_2.out
  have lt_R := HR_2.out.lt
  obtain ⟨r_R0, r_R1, r_R2, r_R3, r_R4, r_R5, r_R6, r_R7, r_R8⟩ := bc9 HR_2.out
  obtain ⟨z_R0, z_R1, z_R2, z_R3, z_R4, z_R5, z_R6, z_R7, z_R8⟩ := bf9 HR_2.out
  go_wp21
  refine bodyPost_ret (v := .tuple #[.agg #[.int .i64 ex, .int .i64 et, .int .i64 ec, .int .i64 es, .int .i64 ek, .int .i64 ea, .int .i64 eb, .int .i64 eg, .int .i64 eh], .bool true]) (by simp [results, Tryz.results118, go_sem, *]) rfl ?_
  exact ⟨rfl, by (repeat' (first | (with_reducible exact Below.refl _ _) | (with_reducible assumption) | (with_reducible refine Below.alloc ?_ ?_ _) | (with_reducible refine Below.drew ?_) | (with_reducible refine Below.setCell ?_ ?_ _) | (with_reducible refine bstep (by assumption) ?_ ?_) | (with_reducible exact Nat.le_refl _) | omega | (simp [*]; done) | (simp [*]; omega))); exact below_drewN f2 _⟩
set_option maxHeartbeats 1000000 in
theorem rowSlot_no (A : Option Addr) (n cap : Nat) (w : World) (hn : n ≠ 11) (hcm : n ≤ maxLen) :
    Calls Tryz.prog 118 #[.slice A n cap] w fun e w' => e = .returned (.tuple #[.agg #[.int .i64 0, .int .i64 0, .int .i64 0, .int .i64 0, .int .i64 0, .int .i64 0, .int .i64 0, .int .i64 0, .int .i64 0], .bool false]) ∧ Below w.heap.size w w' := by
  have h1 : ¬ (n : Int) = 11 := by omega
  have h2 : ((n : Int) != 11) = true := by simpa using h1
  unfold maxLen at hcm
  go_enter Tryz.func118, Tryz.ntmps118
  go_wp21
  refine bodyPost_ret (v := .tuple #[.agg #[.int .i64 0, .int .i64 0, .int .i64 0, .int .i64 0, .int .i64 0, .int .i64 0, .int .i64 0, .int .i64 0, .int .i64 0], .bool false]) (by simp [results, Tryz.results118, go_sem, *]) rfl ?_
  exact ⟨rfl, by (repeat' (first | (with_reducible exact Below.refl _ _) | (with_reducible assumption) | (with_reducible refine Below.alloc ?_ ?_ _) | (with_reducible refine Below.drew ?_) | (with_reducible refine Below.setCell ?_ ?_ _) | (with_reducible refine bstep (by assumption) ?_ ?_) | (with_reducible exact Nat.le_refl _) | omega | (simp [*]; done) | (simp [*]; omega)))⟩
end Go.Proofs.YtbheflinchabgaaGreatDoor
namespace Go.Proofs.YtbheflinchabgaaGreatDoor
set_option linter.unusedSimpArgs false
set_option linter.unusedVariables false
attribute [local go_sem] n_lt2 n_lt3 n_lt4 n_le2 n_le3
open Go.RowKit Go.Maps Go.WideShapes
/-- How a mark reads. -/
def markElem (v : Value) : Option (DataW Unit × List MemPlace) := match v with
  | .agg cs => match cs.toList with
    | [.int .i64 a, .int .i64 b, .int .i64 c] => some (.agg [.lit (.int .i64 a), .lit (.int .i64 b), .lit (.int .i64 c)], [])
    | _ => none
  | _ => none
theorem markElem_mk (a b c : Int) : markElem (.agg #[.int .i64 a, .int .i64 b, .int .i64 c]) = some (.agg [.lit (.int .i64 a), .lit (.int .i64 b), .lit (.int .i64 c)], []) := rfl
theorem markElem_inv {v : Value} {a b c : Int} {ps : List MemPlace} (h : markElem v = some (.agg [.lit (.int .i64 a), .lit (.int .i64 b), .lit (.int .i64 c)], ps)) : v = .agg #[.int .i64 a, .int .i64 b, .int .i64 c] := by
  unfold markElem at h
  split at h
  · split at h
    · rename_i cs x y z hcs
      simp only [Option.some.injEq, Prod.mk.injEq, DataW.agg.injEq, List.cons.injEq, DataW.lit.injEq, Lit.int.injEq, true_and, and_true] at h
      obtain ⟨⟨rfl, rfl, rfl⟩, _⟩ := h
      congr 1
      exact Array.toList_inj.1 hcs
    · cases h
  · cases h
def markV (u : Option (Int × Int × Int)) : Value := let x := u.getD (0, 0, 0); .agg #[.int .i64 x.1, .int .i64 x.2.1, .int .i64 x.2.2]
def markD (x : Int × Int × Int) : DataW Unit := .agg [.lit (.int .i64 x.1), .lit (.int .i64 x.2.1), .lit (.int .i64 x.2.2)]
/-- Block b is a map; at 4 it holds u, elsewhere nothing. -/
def MM (P : Program) (K : TypeId) (w : World) (b n : Nat) (u : Option (Int × Int × Int)) : Prop :=
  ∃ D : DataW Unit, w.ownsMap P K markElem b n D ∧ (∀ x : Int, x ≠ 4 → has D (.int .i64 x) = false) ∧ has D (.int .i64 4) = u.isSome ∧ ∀ z, D.atKey (.int .i64 4) z = (match u with | none => z | some x => markD x)
theorem MM.made (w : World) (P : Program) (K : TypeId) : MM P K (w.alloc (.map #[] 0)) w.heap.size 0 none :=
  ⟨_, World.ownsMap_made w P K _, fun _ _ => rfl, rfl, fun _ => rfl⟩
theorem MM.lt {P : Program} {K : TypeId} {w : World} {b n : Nat} {u : Option (Int × Int × Int)} (h : MM P K w b n u) : b < w.heap.size := by
  obtain ⟨D, hD, _⟩ := h
  exact hD.lt
theorem MM.below {P : Program} {K : TypeId} {w w' : World} {b n : Nat} {u : Option (Int × Int × Int)} (h : MM P K w b n u) (hb : Below w.heap.size w w') : MM P K w' b n u := by
  obtain ⟨D, hD, ha⟩ := h
  exact ⟨D, ownsMap_below hD hb, ha⟩
theorem MM.kept {P : Program} {K : TypeId} {w w' : World} {b n : Nat} {u : Option (Int × Int × Int)} {row : Option Nat} (h : MM P K w b n u) (hg : w.grownBy w' row) (hne : some b ≠ row) : MM P K w' b n u := by
  obtain ⟨D, hD, ha⟩ := h
  exact ⟨D, hD.kept hg hne, ha⟩
theorem MM.far {P : Program} {K : TypeId} {w : World} {b n : Nat} {u : Option (Int × Int × Int)} (h : MM P K w b n u) {a : Addr} (ha : b ≠ a.block) (v : Value) : MM P K (w.setCell a v) b n u := by
  obtain ⟨D, hD, hh⟩ := h
  exact ⟨D, hD.setCell ha v, hh⟩
section
variable {P : Program} {K E t : TypeId} {w : World} {b n : Nat} {u : Option (Int × Int × Int)}
theorem MM.look (h : MM P K w b n u) (hK : P.underlying K = some (.int .i64)) (ht : P.underlying t = some (.map K E))
    (hz : (zeroValue E).run P w = .ok (.agg #[.int .i64 0, .int .i64 0, .int .i64 0]) w) : (Instr.lookup t (.map (some b)) (.int .i64 4) false).run P w = .ok (markV u) w := by
  obtain ⟨D, hD, h1, h2, h3⟩ := h
  obtain ⟨v, ps, hrun, hv⟩ := hD.lookup (int_keyed hK) ht hz (markElem_mk 0 0 0) (keyOf_int_mk hK (wf_small (x := 4) (by omega)))
  rw [hrun]
  rw [h3] at hv
  cases u with
  | none => rw [markElem_inv hv]; rfl
  | some x => rw [markElem_inv hv]; rfl
theorem MM.lookOk (h : MM P K w b n u) (hK : P.underlying K = some (.int .i64)) (ht : P.underlying t = some (.map K E))
    (hz : (zeroValue E).run P w = .ok (.agg #[.int .i64 0, .int .i64 0, .int .i64 0]) w) : (Instr.lookup t (.map (some b)) (.int .i64 4) true).run P w = .ok (.tuple #[markV u, .bool u.isSome]) w := by
  obtain ⟨D, hD, h1, h2, h3⟩ := h
  obtain ⟨v, ps, hrun, hv⟩ := hD.look_ok (int_keyed hK) ht hz (markElem_mk 0 0 0) (keyOf_int_mk hK (wf_small (x := 4) (by omega)))
  rw [hrun, h2]
  rw [h3] at hv
  cases u with
  | none => rw [markElem_inv hv]; rfl
  | some x => rw [markElem_inv hv]; rfl
theorem MM.lookNo (h : MM P K w b n u) (hK : P.underlying K = some (.int .i64)) (ht : P.underlying t = some (.map K E))
    (hz : (zeroValue E).run P w = .ok (.agg #[.int .i64 0, .int .i64 0, .int .i64 0]) w) {x : Int} (hx : 0 ≤ x ∧ x ≤ 2000) (hx4 : x ≠ 4) : (Instr.lookup t (.map (some b)) (.int .i64 x) true).run P w = .ok (.tuple #[.agg #[.int .i64 0, .int .i64 0, .int .i64 0], .bool false]) w := by
  obtain ⟨D, hD, h1, h2, h3⟩ := h
  obtain ⟨v, ps, hrun, hv⟩ := hD.look_ok (int_keyed hK) ht hz (markElem_mk 0 0 0) (keyOf_int_mk hK (wf_small hx))
  rw [hrun, h1 x hx4]
  rw [atKey_of_not_has (h1 x hx4)] at hv
  rw [markElem_inv hv]
theorem wpList_mm_put {ops : Array Oper} {rest : List Oper} {o : Oper} {a : Act} {Q : Exit → Act → World → Prop} (hg : o.guard = none) (m x v : Operand) (t : TypeId) (hop : o.op = Op.mapUpdate t m x v)
    (K E : TypeId) (hK : P.underlying K = some (.int .i64)) (ht : P.underlying t = some (.map K E)) (b n : Nat) (u : Option (Int × Int × Int))
    (hm : a.eval m = .map (some b)) (hown : MM P K w b n u) (hn : n < maxLen) (hx : a.eval x = .int .i64 4) (y : Int × Int × Int) (hv : a.eval v = .agg #[.int .i64 y.1, .int .i64 y.2.1, .int .i64 y.2.2])
    (h : ∀ w', MM P K w' b (n + 1) (some y) → w.grownBy w' (some b) → wpList P ops Q rest (a.put o.dst undef) w') :
    wpList P ops Q (o :: rest) a w := by
  obtain ⟨D, hD, h1, h2, h3⟩ := hown
  refine wpList_mapUpdate_in w hg m x v t hop K E (int_keyed hK) ht markElem b n D hm hD hn (.int .i64 4) _ (.int .i64 4) hx hv (keyOf_int_mk hK (wf_small (x := 4) (by omega))) (markD y) [] rfl ?_
  intro w' hD' ht'
  refine h w' ⟨_, hD', fun z hz => ?_, ?_, fun z => ?_⟩ ht'.grown
  · rw [has_put_other (by intro h'; injection h' with _ h5; exact hz h5)]
    exact h1 z hz
  · rw [has_put_same hD.isMap (by trivial)]; rfl
  · rw [atKey_put_same hD.isMap (by trivial)]
theorem wpList_mm_drop {ops : Array Oper} {rest : List Oper} {o : Oper} {a : Act} {Q : Exit → Act → World → Prop} (hg : o.guard = none) (m x : Operand) (t K : TypeId) (hop : o.op = Op.call { callee := Callee.builtin Builtin.delete, args := #[m, x], argTypes := #[t, K] })
    (E : TypeId) (hK : P.underlying K = some (.int .i64)) (ht : P.underlying t = some (.map K E)) (b n : Nat) (u : Option (Int × Int × Int))
    (hm : a.eval m = .map (some b)) (hown : MM P K w b n u) (hx : a.eval x = .int .i64 4)
    (h : ∀ w', MM P K w' b n none → w.grownBy w' (some b) → wpList P ops Q rest (a.put o.dst (.tuple #[])) w') :
    wpList P ops Q (o :: rest) a w := by
  obtain ⟨D, hD, h1, h2, h3⟩ := hown
  refine wpList_delete_own w hg m x t K hop E (int_keyed hK) ht markElem b n D hm hD (.int .i64 4) (.int .i64 4) hx (keyOf_int_mk hK (wf_small (x := 4) (by omega))) ?_
  intro w' hD' ht'
  refine h w' ⟨_, hD', fun z hz => ?_, ?_, fun z => ?_⟩ ht'.grown
  · rw [has_del_other (by intro h'; injection h' with _ h5; exact hz h5)]
    exact h1 z hz
  · rw [has_del_same]; rfl
  · rw [atKey_del_same]
end
end Go.Proofs.YtbheflinchabgaaGreatDoor
namespace Go.Proofs.YtbheflinchabgaaGreatDoor
set_option linter.unusedSimpArgs false
set_option linter.unusedVariables false
attribute [local go_sem] n_lt2 n_lt3 n_lt4 n_le2 n_le3
open Go.RowKit
attribute [local go_sem] Ext.cell Ext.frozen
theorem zeroB97 (w : World) : (zeroValue 4).run Tryz.prog w = .ok (.bool false) w := by simp [go_sem, Tryz.zeroValue4]
theorem zeroM97 (w : World) : (zeroValue 97).run Tryz.prog w = .ok (.agg #[.int .i64 0, .int .i64 0, .int .i64 0]) w := by simp [go_sem, Tryz.zeroValue97]
theorem info_MarkL : (Tryz.prog.info? 97).map (fun i => (i.zero, i.size, i.bytes)) = some (some (.agg #[.int .i64 0, .int .i64 0, .int .i64 0]), 3, 24) := by kernel_rfl
/-- A slice of one mark. -/
theorem sl_mark {w : World} {S : Option Addr} {a s i : Int} (h : Sl w 3 S 1 [a, s, i]) : ∃ b off, S = some ⟨b, off, none⟩ ∧ b < w.heap.size ∧ w.cell? ⟨b, off, none⟩ = some (.int .i64 a) ∧ w.cell? ⟨b, off + 1, none⟩ = some (.int .i64 s) ∧ w.cell? ⟨b, off + 2, none⟩ = some (.int .i64 i) := by
  obtain ⟨b, off, hA, hb, hc⟩ := h.at_ (by decide)
  exact ⟨b, off, hA, hb, hc 0 (by decide), hc 1 (by decide), hc 2 (by decide)⟩
set_option maxHeartbeats 1000000 in
theorem seenOk_zero (S : Option Addr) (c : Nat) (w : World) : Calls Tryz.prog 85 #[.slice S 0 c] w fun e w' => e = .returned (.bool true) ∧ Below w.heap.size w w' := by
  have hmm := @run_makeMap Tryz.prog
  go_enter Tryz.func85, Tryz.ntmps85
  go_upto_region 2 with fail
  obtain ⟨v0, hv0⟩ : ∃ x : World, x = w.alloc (.map #[] 0) := ⟨_, rfl⟩
  rw [← hv0]
  have f0 : Below w.heap.size w v0 := by rw [hv0]; (repeat' (first | (with_reducible exact Below.refl _ _) | (with_reducible assumption) | (with_reducible refine Below.alloc ?_ ?_ _) | (with_reducible refine Below.drew ?_) | (with_reducible refine Below.setCell ?_ ?_ _) | (with_reducible refine bstep (by assumption) ?_ ?_) | (with_reducible exact Nat.le_refl _) | omega | (simp [*]; done) | (simp [*]; omega)))
  clear hv0
  go_wp2_with fail
  go_loopw [9] (fun iv wr => iv = .int .i64 0 ∧ v0 = wr) (fun _ _ => 0)
  case atStart => exact ⟨rfl, rfl⟩
  case round =>
    obtain ⟨rfl, rfl⟩ := hrel
    go_wp2
    go_ret
    exact ⟨rfl, f0⟩
set_option maxRecDepth 100000 in
set_option maxHeartbeats 4000000 in
theorem seenOk_one (S : Option Addr) (c : Nat) (a s i : Int) (w : World) (hS : Sl w 3 S 1 [a, s, i]) (ha : 2 ≤ a ∧ a ≤ 5) (hs : 1 ≤ s ∧ s ≤ 2000) (hi : 1 ≤ i ∧ i ≤ 2000) : Calls Tryz.prog 85 #[.slice S 1 c] w fun e w' => e = .returned (.bool true) ∧ Below w.heap.size w w' := by
  have c1 := fun v => askerOk_any a v
  rw [show inB a 2 5 = true from (inB_iff _ _ _).2 ha] at c1
  have c2 := fun v => seqOk_any s v
  rw [show inB s 1 2000 = true from (inB_iff _ _ _).2 hs] at c2
  have c3 := fun v => indexOk_any i v
  rw [show inB i 1 2000 = true from (inB_iff _ _ _).2 hi] at c3
  obtain ⟨b, off, rfl, hb, h0, h1, h2⟩ := sl_mark hS
  have hi2 := Lib.hid (show 0 ≤ i ∧ i ≤ 2000 by omega)
  clear hS ha hs hi
  have hmm := @run_makeMap Tryz.prog
  go_enter Tryz.func85, Tryz.ntmps85
  go_upto_region 2 with fail
  obtain ⟨v0, hv0⟩ : ∃ x : World, x = w.alloc (.map #[] 0) := ⟨_, rfl⟩
  rw [← hv0]
  have f0 : Below w.heap.size w v0 := by rw [hv0]; (repeat' (first | (with_reducible exact Below.refl _ _) | (with_reducible assumption) | (with_reducible refine Below.alloc ?_ ?_ _) | (with_reducible refine Below.drew ?_) | (with_reducible refine Below.setCell ?_ ?_ _) | (with_reducible refine bstep (by assumption) ?_ ?_) | (with_reducible exact Nat.le_refl _) | omega | (simp [*]; done) | (simp [*]; omega)))
  have z0 : w.heap.size + 1 ≤ v0.heap.size := by rw [hv0]; simp
  have HM0 : Hid (Marked Tryz.prog 2 4 v0 w.heap.size 0 (fun _ => false)) := by rw [hv0]; exact Lib.hid (Marked.made _ _ _ _)
  rw [← f0.cell (p := ⟨b, off, none⟩) hb] at h0
  rw [← f0.cell (p := ⟨b, off + 1, none⟩) hb] at h1
  rw [← f0.cell (p := ⟨b, off + 2, none⟩) hb] at h2
  clear hv0
  obtain ⟨gm, hgm⟩ : ∃ q, q = w.heap.size := ⟨_, rfl⟩
  rw [← hgm] at HM0
  try rw [← hgm]
  have lgm : w.heap.size ≤ gm := by omega
  have mgm : gm < v0.heap.size := by omega
  clear hgm
  go_wp2_with fail
  go_loopw [9] (fun iv wr => (iv = .int .i64 0 ∧ v0 = wr) ∨ (iv = .int .i64 1 ∧ Hid (Below w.heap.size w wr))) (fun iv _ => 1 - (intOf iv).toNat)
  case atStart => exact .inl ⟨rfl, rfl⟩
  case round =>
    rcases hrel with ⟨rfl, rfl⟩ | ⟨rfl, HF⟩
    · go_wp2_with fail
      refine calls_named ?_
      rintro v1 hv1
      have K1 : Blk v1 v0.heap.size 97 #[.int .i64 a, .int .i64 s, .int .i64 i] := by rw [hv1]; exact Blk.new_at _ _ _ _ rfl
      have b1 : Below v0.heap.size v0 v1 := by rw [hv1]; exact (Below.refl _ _).alloc (Nat.le_refl _) _
      have HM1 := HM0.out.below b1
      have f1 := bthen f0 b1
      have z1 : v0.heap.size < v1.heap.size := K1.lt
      clear hv1 h0 h1 h2
      obtain ⟨gk, hgk⟩ : ∃ q, q = v0.heap.size := ⟨_, rfl⟩
      rw [← hgk] at K1
      try rw [← hgk]
      have lgk : gm < gk := by omega
      have mgk := K1.lt
      have HF1 := Lib.hid f1
      clear b1 hgk
      have r0 := K1.cell 0
      have r1 := K1.cell 1
      have r2 := K1.cell 2
      have look := HM1.look (t := 213) Tryz.underlying2 Tryz.underlying4 Tryz.underlying213 (zeroB97 _) hi2.out
      have HMH := Lib.hid HM1
      clear HM1 K1 f1
      refine (c1 v1).mono ?_
      rintro e w' ⟨rfl, rfl⟩
      go_wp2_with fail
      refine (c2 v1).mono ?_
      rintro e w' ⟨rfl, rfl⟩
      go_wp2_with fail
      refine (c3 v1).mono ?_
      rintro e w' ⟨rfl, rfl⟩
      clear c1 c2 c3
      go_wp2_with fail
      go_quiet (fail)
      go_wp2_with (at_mapUpdate; refine wpList_mark rfl _ _ _ 213 rfl 2 4 Tryz.underlying2 Tryz.underlying4 Tryz.underlying213 gm 0 (fun _ => false) rfl (HMH.out.below (below_drewN (Below.refl _ _) _)) (by unfold maxLen; omega) i hi2.out rfl rfl ?_; intro w5 HM5 hg5)
      have F5 : Below w.heap.size w w5 := (below_drewN HF1.out _).grown hg5 (by simp; omega) (fun k hk => by cases hk; omega)
      exact ⟨.inr ⟨rfl, Lib.hid F5⟩, by simp [intOf]⟩
    · go_wp2
      go_ret
      exact ⟨rfl, HF.out⟩
set_option maxHeartbeats 1600000 in
theorem copySeen_any (A : Option Addr) (n cap : Nat) (zs : List Int) (w : World) (hS : Sl w 3 A n zs) (hn : n ≤ 1000) :
    Calls Tryz.prog 66 #[.slice A n cap] w (RetRow w 97 3 n zs) := by
  have HS := Lib.hid hS
  clear hS
  go_enter Tryz.func66, Tryz.ntmps66
  go_wp2_with (at_builtin; refine wpList_append_copy rfl _ _ 43 rfl 97 _ 3 24 Tryz.underlying43 info_MarkL (by first | kernel_rfl | simp [Value.cells]) (by decide) w.heap.size rfl w.heap.size A n cap zs rfl (by unfold maxLen; omega) (by omega) (Blk.new_at _ _ _ _ rfl) (Nat.le_refl _) (HS.out.alloc _) ?_; intro A5 c5 w5 R5 B5 L5 O5)
  go_ret
  exact RetRow.mk R5 (bthen ((Below.refl w.heap.size w).alloc (Nat.le_refl _) _) B5)
set_option maxHeartbeats 1600000 in
theorem markOf_zero (S : Option Addr) (c : Nat) (k : Int) (w : World) : Calls Tryz.prog 32 #[.slice S 0 c, .int .i64 k] w fun e w' => e = .returned (.agg #[.int .i64 0, .int .i64 0, .int .i64 0]) ∧ Below w.heap.size w w' := by
  go_enter Tryz.func32, Tryz.ntmps32
  go_upto_region 1 with fail
  obtain ⟨v0, hv0⟩ : ∃ x : World, x = w.alloc (.cells #[.int .i64 0, .int .i64 0, .int .i64 0] 97) := ⟨_, rfl⟩
  rw [← hv0]
  have f0 : Below w.heap.size w v0 := by rw [hv0]; (repeat' (first | (with_reducible exact Below.refl _ _) | (with_reducible assumption) | (with_reducible refine Below.alloc ?_ ?_ _) | (with_reducible refine Below.drew ?_) | (with_reducible refine Below.setCell ?_ ?_ _) | (with_reducible refine bstep (by assumption) ?_ ?_) | (with_reducible exact Nat.le_refl _) | omega | (simp [*]; done) | (simp [*]; omega)))
  have K0 : Blk v0 w.heap.size 97 #[.int .i64 0, .int .i64 0, .int .i64 0] := by rw [hv0]; exact Blk.new _ _ _
  clear hv0
  have l0 := K0.lt
  have r0 := K0.cell 0
  have r1 := K0.cell 1
  have r2 := K0.cell 2
  obtain ⟨y0, y1, y2⟩ := bf3 K0
  clear K0
  go_wp2_with fail
  go_loopw [9] (fun iv wr => iv = .int .i64 0 ∧ v0 = wr) (fun _ _ => 0)
  case atStart => exact ⟨rfl, rfl⟩
  case round =>
    obtain ⟨rfl, rfl⟩ := hrel
    go_wp21
    refine bodyPost_ret (v := .agg #[.int .i64 0, .int .i64 0, .int .i64 0]) (by simp [results, Tryz.results32, go_sem, *]) rfl ?_
    exact ⟨rfl, by (repeat' (first | (with_reducible exact Below.refl _ _) | (with_reducible assumption) | (with_reducible refine Below.alloc ?_ ?_ _) | (with_reducible refine Below.drew ?_) | (with_reducible refine Below.setCell ?_ ?_ _) | (with_reducible refine bstep (by assumption) ?_ ?_) | (with_reducible exact Nat.le_refl _) | omega | (simp [*]; done) | (simp [*]; omega)))⟩
set_option maxRecDepth 100000 in
set_option maxHeartbeats 2000000 in
theorem markOf_one (S : Option Addr) (c : Nat) (k s i : Int) (w : World) (hS : Sl w 3 S 1 [k, s, i]) : Calls Tryz.prog 32 #[.slice S 1 c, .int .i64 k] w fun e w' => e = .returned (.agg #[.int .i64 k, .int .i64 s, .int .i64 i]) ∧ Below w.heap.size w w' := by
  obtain ⟨b, off, rfl, hb, h0, h1, h2⟩ := sl_mark hS
  clear hS
  go_enter Tryz.func32, Tryz.ntmps32
  go_upto_region 1 with fail
  obtain ⟨v0, hv0⟩ : ∃ x : World, x = w.alloc (.cells #[.int .i64 0, .int .i64 0, .int .i64 0] 97) := ⟨_, rfl⟩
  rw [← hv0]
  have f0 : Below w.heap.size w v0 := by rw [hv0]; (repeat' (first | (with_reducible exact Below.refl _ _) | (with_reducible assumption) | (with_reducible refine Below.alloc ?_ ?_ _) | (with_reducible refine Below.drew ?_) | (with_reducible refine Below.setCell ?_ ?_ _) | (with_reducible refine bstep (by assumption) ?_ ?_) | (with_reducible exact Nat.le_refl _) | omega | (simp [*]; done) | (simp [*]; omega)))
  have K0 : Blk v0 w.heap.size 97 #[.int .i64 0, .int .i64 0, .int .i64 0] := by rw [hv0]; exact Blk.new _ _ _
  rw [← f0.cell (p := ⟨b, off, none⟩) hb] at h0
  rw [← f0.cell (p := ⟨b, off + 1, none⟩) hb] at h1
  rw [← f0.cell (p := ⟨b, off + 2, none⟩) hb] at h2
  clear hv0
  have l0 := K0.lt
  have r0 := K0.cell 0
  have r1 := K0.cell 1
  have r2 := K0.cell 2
  obtain ⟨y0, y1, y2⟩ := bf3 K0
  clear K0
  go_wp2_with fail
  go_loopw [9] (fun iv wr => iv = .int .i64 0 ∧ v0 = wr) (fun _ _ => 0)
  case atStart => exact ⟨rfl, rfl⟩
  case round =>
    obtain ⟨rfl, rfl⟩ := hrel
    go_wp21
    refine bodyPost_ret (v := .agg #[.int .i64 k, .int .i64 s, .int .i64 i]) (by simp [results, Tryz.results32, go_sem, *]) rfl ?_
    exact ⟨rfl, by (repeat' (first | (with_reducible exact Below.refl _ _) | (with_reducible assumption) | (with_reducible refine Below.alloc ?_ ?_ _) | (with_reducible refine Below.drew ?_) | (with_reducible refine Below.setCell ?_ ?_ _) | (with_reducible refine bstep (by assumption) ?_ ?_) | (with_reducible exact Nat.le_refl _) | omega | (simp [*]; done) | (simp [*]; omega)))⟩
set_option maxHeartbeats 1600000 in
theorem lastSeen_zero (S : Option Addr) (c : Nat) (w : World) : Calls Tryz.prog 86 #[.slice S 0 c] w fun e w' => e = .returned (.int .i64 0) ∧ Below w.heap.size w w' := by
  go_enter Tryz.func86, Tryz.ntmps86
  go_wp2_with fail
  go_loopw [3, 8] (fun sv iv wr => sv = .int .i64 0 ∧ iv = .int .i64 0 ∧ w = wr) (fun _ _ _ => 0)
  case atStart => exact ⟨rfl, rfl, rfl⟩
  case round =>
    obtain ⟨rfl, rfl, rfl⟩ := hrel
    go_wp2
    go_ret
    exact ⟨rfl, Below.refl _ _⟩
set_option maxRecDepth 100000 in
set_option maxHeartbeats 2000000 in
theorem lastSeen_one (S : Option Addr) (c : Nat) (k s i : Int) (w : World) (hS : Sl w 3 S 1 [k, s, i]) (hi : 0 ≤ i) : Calls Tryz.prog 86 #[.slice S 1 c] w fun e w' => e = .returned (.int .i64 i) ∧ Below w.heap.size w w' := by
  obtain ⟨b, off, rfl, hb, h0, h1, h2⟩ := sl_mark hS
  clear hS
  have hm : max (0 : Int) i = i := by omega
  go_enter Tryz.func86, Tryz.ntmps86
  go_wp2_with fail
  go_loopw [3, 8] (fun sv iv wr => (iv = .int .i64 0 ∧ sv = .int .i64 0 ∧ w = wr) ∨ (iv = .int .i64 1 ∧ sv = .int .i64 i ∧ Hid (Below w.heap.size w wr))) (fun _ iv _ => 1 - (intOf iv).toNat)
  case atStart => exact .inl ⟨rfl, rfl, rfl⟩
  case round =>
    rcases hrel with ⟨rfl, rfl, rfl⟩ | ⟨rfl, rfl, HF⟩
    · go_wp2
      exact ⟨.inr ⟨rfl, by first | rfl | (simp [hm]; done) | (simp; omega), Lib.hid (by (repeat' (first | (with_reducible exact Below.refl _ _) | (with_reducible assumption) | (with_reducible refine Below.alloc ?_ ?_ _) | (with_reducible refine Below.drew ?_) | (with_reducible refine Below.setCell ?_ ?_ _) | (with_reducible refine bstep (by assumption) ?_ ?_) | (with_reducible exact Nat.le_refl _) | omega | (simp [*]; done) | (simp [*]; omega))))⟩, by simp [intOf]⟩
    · go_wp2
      go_ret
      exact ⟨rfl, HF.out⟩
end Go.Proofs.YtbheflinchabgaaGreatDoor
namespace Go.Proofs.YtbheflinchabgaaGreatDoor
set_option linter.unusedSimpArgs false
set_option linter.unusedVariables false
attribute [local go_sem] n_lt2 n_lt3 n_lt4 n_le2 n_le3
open Go.RowKit
attribute [local go_sem] Ext.cell Ext.frozen
set_option maxRecDepth 100000 in
set_option maxHeartbeats 4000000 in
theorem headOk_zero (S : Option Addr) (c : Nat) (w : World) : Calls Tryz.prog 56 #[.agg #[.int .i64 0, .int .i64 0, .int .i64 0, .slice S 0 c]] w fun e w' => e = .returned (.bool true) ∧ Below w.heap.size w w' := by
  have e1 : inB 0 0 2000 = true := by decide
  have e2 : inB 0 0 0 = true := by decide
  have e3 : inB 0 0 1000000 = true := by decide
  go_enter Tryz.func56, Tryz.ntmps56
  go_upto_region 1 with fail
  obtain ⟨v0, hv0⟩ : ∃ x : World, x = w.alloc (.cells #[.int .i64 0, .int .i64 0, .int .i64 0, .slice S 0 c] 45) := ⟨_, rfl⟩
  rw [← hv0]
  have f0 : Below w.heap.size w v0 := by rw [hv0]; (repeat' (first | (with_reducible exact Below.refl _ _) | (with_reducible assumption) | (with_reducible refine Below.alloc ?_ ?_ _) | (with_reducible refine Below.drew ?_) | (with_reducible refine Below.setCell ?_ ?_ _) | (with_reducible refine bstep (by assumption) ?_ ?_) | (with_reducible exact Nat.le_refl _) | omega | (simp [*]; done) | (simp [*]; omega)))
  have K0 : Blk v0 w.heap.size 45 #[.int .i64 0, .int .i64 0, .int .i64 0, .slice S 0 c] := by rw [hv0]; exact Blk.new _ _ _
  clear hv0
  have l0 := K0.lt
  have r0 := K0.cell 0
  have r1 := K0.cell 1
  have r2 := K0.cell 2
  have r3 := K0.cell 3
  have hb := Below.refl v0.heap.size v0
  have F0 := Lib.hid f0
  clear K0 f0
  ((refine wp_region_ext (by kernel_rfl) (by kernel_rfl) ?_); (repeat (any_goals (first | go_big_quiet_step (first | (go_at_call 59; exact quiet_ext_same (between_any _ _ _ _)) | (go_at_call 31; exact quiet_ext_same (timeOk_any _ _)) | (go_at_call 85; exact quiet_ext (seenOk_zero _ _ _)) | (go_at_call 86; exact quiet_ext (lastSeen_zero _ _ _))) | (refine wpQuiet_step (fun K hK => ?_); go_simp; split <;> (refine hK _ ?_; clear hK K)) | quiet_step (first | (go_at_call 59; exact quiet_ext_same (between_any _ _ _ _)) | (go_at_call 31; exact quiet_ext_same (timeOk_any _ _)) | (go_at_call 85; exact quiet_ext (seenOk_zero _ _ _)) | (go_at_call 86; exact quiet_ext (lastSeen_zero _ _ _)))))); (all_goals (refine wpQuiet_nil ?_; rintro _ ⟨z, rfl⟩; have hb' := z.h; generalize z.w = w1 at hb' ⊢; clear z; (first | (have hb2 := bstep hb' hb hb.size; clear hb' hcb hfb hz1 hz2 hz3 hz4 hb; have hb := hb2; clear hb2) | (have hb := hb'; clear hb')); obtain ⟨hcb, hfb, hz1, hz2, hz3, hz4⟩ := bcell hb; (try simp only [World.size_alloc, World.size_setCell, World.size_drew, Nat.lt_add_one_iff, Nat.add_assoc, Nat.reduceAdd] at hz1 hz2 hz3 hz4))))
  all_goals
    go_wp2
    go_ret
    exact ⟨rfl, bthen F0.out hb⟩
set_option maxHeartbeats 1600000 in
theorem equalMark_zero (S U : Option Addr) (c d : Nat) (w : World) : Calls Tryz.prog 101 #[.slice S 0 c, .slice U 0 d] w fun e w' => e = .returned (.bool true) ∧ Below w.heap.size w w' := by
  go_enter Tryz.func101, Tryz.ntmps101
  go_wp2_with fail
  go_loopw [13] (fun iv wr => iv = .int .i64 0 ∧ w = wr) (fun _ _ => 0)
  case atStart => exact ⟨rfl, rfl⟩
  case round =>
    obtain ⟨rfl, rfl⟩ := hrel
    go_wp2
    go_ret
    exact ⟨rfl, Below.refl _ _⟩
set_option maxRecDepth 100000 in
set_option maxHeartbeats 2000000 in
theorem equalMark_one (S U : Option Addr) (c d : Nat) (k s i : Int) (w : World) (hS : Sl w 3 S 1 [k, s, i]) (hU : Sl w 3 U 1 [k, s, i]) : Calls Tryz.prog 101 #[.slice S 1 c, .slice U 1 d] w fun e w' => e = .returned (.bool true) ∧ Below w.heap.size w w' := by
  obtain ⟨b, off, rfl, hb, h0, h1, h2⟩ := sl_mark hS
  obtain ⟨b', off', rfl, hb', h0', h1', h2'⟩ := sl_mark hU
  clear hS hU
  go_enter Tryz.func101, Tryz.ntmps101
  go_wp2_with fail
  go_loopw [13] (fun iv wr => (iv = .int .i64 0 ∧ w = wr) ∨ (iv = .int .i64 1 ∧ Hid (Below w.heap.size w wr))) (fun iv _ => 1 - (intOf iv).toNat)
  case atStart => exact .inl ⟨rfl, rfl⟩
  case round =>
    rcases hrel with ⟨rfl, rfl⟩ | ⟨rfl, HF⟩
    · go_wp2_with fail
      go_quiet (fail)
      go_wp2_with fail
      exact ⟨.inr ⟨rfl, Lib.hid (below_drewN (Below.refl _ _) _)⟩, by simp [intOf]⟩
    · go_wp2
      go_ret
      exact ⟨rfl, HF.out⟩
theorem sameSeen_marks (S U : Option Addr) (c d : Nat) (es : List En) (w : World) (hS : Sl w 3 S (markN es) (markL es)) (hU : Sl w 3 U (markN es) (markL es)) : Calls Tryz.prog 58 #[.slice S (markN es) c, .slice U (markN es) d] w fun e w' => e = .returned (.bool true) ∧ Below w.heap.size w w' := by
  have c1 : Calls Tryz.prog 101 #[.slice S (markN es) c, .slice U (markN es) d] w fun e w' => e = .returned (.bool true) ∧ Below w.heap.size w w' := by
    by_cases h : es.length = 0
    · have e1 : markN es = 0 := by unfold markN; rw [if_pos h]
      rw [e1]
      exact equalMark_zero S U c d w
    · have e1 : markN es = 1 := by unfold markN; rw [if_neg h]
      have e2 : markL es = [4, (es.length : Int), (es.length : Int)] := by unfold markL; rw [if_neg h]
      rw [e1, e2] at hS hU
      rw [e1]
      exact equalMark_one S U c d _ _ _ w hS hU
  clear hS hU
  go_enter Tryz.func58, Tryz.ntmps58
  go_wp2_with fail
  refine c1.mono ?_
  rintro e w1 ⟨rfl, b1⟩
  go_wp2
  go_ret
  exact ⟨rfl, b1⟩
theorem sameSeen_zero (S U : Option Addr) (c d : Nat) (w : World) : Calls Tryz.prog 58 #[.slice S 0 c, .slice U 0 d] w fun e w' => e = .returned (.bool true) ∧ Below w.heap.size w w' :=
  sameSeen_marks S U c d [] w (Sl.nil _ _ _) (Sl.nil _ _ _)
set_option maxRecDepth 100000 in
set_option maxHeartbeats 2000000 in
theorem sameHead_zero (S U : Option Addr) (c d : Nat) (w : World) : Calls Tryz.prog 102 #[.agg #[.int .i64 0, .int .i64 0, .int .i64 0, .slice S 0 c], .agg #[.int .i64 0, .int .i64 0, .int .i64 0, .slice U 0 d]] w fun e w' => e = .returned (.bool true) ∧ Below w.heap.size w w' := by
  go_enter Tryz.func102, Tryz.ntmps102
  go_wp2_with fail
  refine calls_named ?_
  rintro v0 hv0
  have f0 : Below w.heap.size w v0 := by rw [hv0]; (repeat' (first | (with_reducible exact Below.refl _ _) | (with_reducible assumption) | (with_reducible refine Below.alloc ?_ ?_ _) | (with_reducible refine Below.drew ?_) | (with_reducible refine Below.setCell ?_ ?_ _) | (with_reducible refine bstep (by assumption) ?_ ?_) | (with_reducible exact Nat.le_refl _) | omega | (simp [*]; done) | (simp [*]; omega)))
  clear hv0
  refine (sameSeen_zero S U c d v0).mono ?_
  rintro e w1 ⟨rfl, b1⟩
  go_wp2
  go_ret
  exact ⟨rfl, bthen f0 b1⟩
set_option maxRecDepth 100000 in
set_option maxHeartbeats 2000000 in
theorem copyHead_zero (S : Option Addr) (c : Nat) (w : World) : Calls Tryz.prog 64 #[.agg #[.int .i64 0, .int .i64 0, .int .i64 0, .slice S 0 c]] w fun e w' => ∃ S' c', e = .returned (.agg #[.int .i64 0, .int .i64 0, .int .i64 0, .slice S' 0 c']) ∧ Below w.heap.size w w' := by
  go_enter Tryz.func64, Tryz.ntmps64
  go_upto_region 1 with fail
  obtain ⟨v0, hv0⟩ : ∃ x : World, x = ((w.alloc (.cells #[.int .i64 0, .int .i64 0, .int .i64 0, .slice S 0 c] 45)).alloc (.cells #[.int .i64 0, .int .i64 0, .int .i64 0, .slice none 0 0] 45)) := ⟨_, rfl⟩
  rw [← hv0]
  have f0 : Below w.heap.size w v0 := by rw [hv0]; (repeat' (first | (with_reducible exact Below.refl _ _) | (with_reducible assumption) | (with_reducible refine Below.alloc ?_ ?_ _) | (with_reducible refine Below.drew ?_) | (with_reducible refine Below.setCell ?_ ?_ _) | (with_reducible refine bstep (by assumption) ?_ ?_) | (with_reducible exact Nat.le_refl _) | omega | (simp [*]; done) | (simp [*]; omega)))
  have z0 : w.heap.size + 2 ≤ v0.heap.size := by rw [hv0]; simp [size_set]
  have HB_0 : Hid (Blk v0 w.heap.size 45 #[.int .i64 0, .int .i64 0, .int .i64 0, .slice S 0 c]) := by rw [hv0]; exact Lib.hid (((Blk.new_at _ _ _ _ (by simp [size_set]))).alloc _)
  have HR_0 : Hid (Blk v0 (w.heap.size + 1) 45 #[.int .i64 0, .int .i64 0, .int .i64 0, .slice none 0 0]) := by rw [hv0]; exact Lib.hid ((Blk.new_at _ _ _ _ (by simp [size_set])))
  clear hv0
  obtain ⟨gR, hgR⟩ : ∃ q, q = w.heap.size + 1 := ⟨_, rfl⟩
  rw [← hgR] at HR_0
  try rw [← hgR]
  have lgR : w.heap.size ≤ gR := by omega
  have mgR : gR < v0.heap.size := by omega
  have ngR : ∀ k, w.heap.size ≤ k → k ≠ gR → True := fun _ _ _ => trivial
  clear ngR
  obtain ⟨gB, hgB⟩ : ∃ q, q = w.heap.size := ⟨_, rfl⟩
  rw [← hgB] at HB_0
  try rw [← hgB]
  have lgB : w.heap.size ≤ gB := by omega
  have mgB : gB < v0.heap.size := by omega
  have ngB : ∀ k, w.heap.size ≤ k → k ≠ gB → True := fun _ _ _ => trivial
  clear ngB
  have nnBR : gB < gR := by omega
  clear hgB
  clear hgR
  have lt_B := HB_0.out.lt
  obtain ⟨r_B0, r_B1, r_B2, r_B3⟩ := bc4 HB_0.out
  have lt_R := HR_0.out.lt
  obtain ⟨r_R0, r_R1, r_R2, r_R3⟩ := bc4 HR_0.out
  obtain ⟨z_R0, z_R1, z_R2, z_R3⟩ := bf4 HR_0.out
  have hS0 : ∀ b o, b < gR → v0.cell? ⟨b, o, none⟩ = v0.cell? ⟨b, o, none⟩ := fun _ _ _ => rfl
  go_region_held_law (fun w' => ∀ b o, b < gR → w'.cell? ⟨b, o, none⟩ = v0.cell? ⟨b, o, none⟩) (repeat' (first | with_reducible assumption | with_reducible exact Nat.le_refl _ | with_reducible exact hS0 | with_reducible refine rd_drew ?_ | with_reducible refine rd_set ?_ ?_ _ _)) ((go_at_call 66; refine (copySeen_any S 0 c [] _ (Sl.nil _ _ _) (by decide)).mono ?_; rintro e v1 ⟨A1, c1, rfl, R1, b1⟩; have E1 : Below v0.heap.size v0 v1 := (by first | with_reducible exact b1 | with_reducible exact hd_dr b1); have hS1 : ∀ b o, b < gR → v1.cell? ⟨b, o, none⟩ = v0.cell? ⟨b, o, none⟩ := fun b o hb => E1.cell (p := ⟨b, o, none⟩) (by show b < _; omega); have KR2 := HR_0.out.below E1; have x0 := KR2.cell 0; have y0 := KR2.frozen 0; have x1 := KR2.cell 1; have y1 := KR2.frozen 1; have x2 := KR2.cell 2; have y2 := KR2.frozen 2; have x3 := KR2.cell 3; have y3 := KR2.frozen 3; have yl := KR2.lt))
  all_goals
    rename_i hHx
    clear hHx hS0 hS1
    have F2 := bthen f0 E1
    go_wp21
    refine bodyPost_ret (v := .agg #[.int .i64 0, .int .i64 0, .int .i64 0, .slice A1 0 c1]) (by simp [results, Tryz.results64, go_sem, *]) rfl ?_
    exact ⟨_, _, rfl, (((F2.setCell (p := ⟨gR, 0, none⟩) (show w.heap.size ≤ gR by omega) _).setCell (p := ⟨gR, 1, none⟩) (show w.heap.size ≤ gR by omega) _).setCell (p := ⟨gR, 2, none⟩) (show w.heap.size ≤ gR by omega) _).setCell (p := ⟨gR, 3, none⟩) (show w.heap.size ≤ gR by omega) _⟩
end Go.Proofs.YtbheflinchabgaaGreatDoor
namespace Go.Proofs.YtbheflinchabgaaGreatDoor
set_option linter.unusedSimpArgs false
set_option linter.unusedVariables false
attribute [local go_sem] n_lt2 n_lt3 n_lt4 n_le2 n_le3
open Go.RowKit
attribute [local go_sem] Ext.cell Ext.frozen
theorem fieldMark1 (a b c : Int) (w : World) : (Instr.field 97 (.agg #[.int .i64 a, .int .i64 b, .int .i64 c]) 1).run Tryz.prog w = .ok (.int .i64 b) w := by
  simp [Instr.field, run_underlying Tryz.underlying97, part, isAgg, asAgg, run_underlying Tryz.underlying2, go_sem]
def markU (es : List En) : Option (Int × Int × Int) := if es.length = 0 then none else some (4, (es.length : Int), (es.length : Int))
theorem markU_V (es : List En) : ∃ c0 : Int, markV (markU es) = .agg #[.int .i64 c0, .int .i64 es.length, .int .i64 es.length] := by
  unfold markU
  by_cases h : es.length = 0
  · rw [if_pos h, h]
    exact ⟨0, rfl⟩
  · rw [if_neg h]
    exact ⟨4, rfl⟩
theorem markU_none {es : List En} (h : es.length = 0) : markU es = none ∧ markN es = 0 ∧ markL es = [] := by unfold markU markN markL; simp [h]
theorem markU_some {es : List En} (h : es.length ≠ 0) : markU es = some (4, (es.length : Int), (es.length : Int)) ∧ markN es = 1 ∧ markL es = [4, (es.length : Int), (es.length : Int)] := by unfold markU markN markL; simp [h]
theorem take_succ_app (a l : List En) (k : Nat) (h : k < l.length) : a ++ l.take (k + 1) = (a ++ l.take k) ++ [l.getD k default] := by
  rw [List.take_add_one, show l[k]?.toList = [l.getD k default] by simp [List.getD, h], List.append_assoc]
theorem entsP.app {a l : List En} (h : entsP (a ++ l)) {k : Nat} (hk : k < l.length) : entP (a.length + k) (l.getD k default) := by
  have := h.2.1 (a.length + k) (by simp; omega)
  rwa [show (a ++ l).getD (a.length + k) default = l.getD k default by simp [List.getD, List.getElem?_append_right]] at this
theorem seenOk_marks (S : Option Addr) (c : Nat) (es : List En) (w : World) (hl : es.length ≤ 1000) (hS : Sl w 3 S (markN es) (markL es)) : Calls Tryz.prog 85 #[.slice S (markN es) c] w fun e w' => e = .returned (.bool true) ∧ Below w.heap.size w w' := by
  by_cases h : es.length = 0
  · rw [(markU_none h).2.1]
    exact seenOk_zero S c w
  · rw [(markU_some h).2.1, (markU_some h).2.2] at hS
    rw [(markU_some h).2.1]
    exact seenOk_one S c 4 _ _ w hS (by omega) (by omega) (by omega)
theorem lastSeen_marks (S : Option Addr) (c : Nat) (es : List En) (w : World) (hS : Sl w 3 S (markN es) (markL es)) : Calls Tryz.prog 86 #[.slice S (markN es) c] w fun e w' => e = .returned (.int .i64 es.length) ∧ Below w.heap.size w w' := by
  by_cases h : es.length = 0
  · rw [(markU_none h).2.1, h]
    exact lastSeen_zero S c w
  · rw [(markU_some h).2.1, (markU_some h).2.2] at hS
    rw [(markU_some h).2.1]
    exact lastSeen_one S c 4 _ _ w hS (by omega)
theorem cell_three_at {w : World} {x y z : Value} {t : TypeId} {g : Nat} (hg : w.heap.size = g) : ∀ j u, [x, y, z][j]? = some u → (w.alloc (.cells #[x, y, z] t)).cell? ((⟨g, 0, none⟩ : Addr).add j) = some u := by
  subst hg
  intro j u hj
  match j, hj with
  | 0, hj => simp at hj; subst hj; simp [Addr.add]
  | 1, hj => simp at hj; subst hj; simp [Addr.add]
  | 2, hj => simp at hj; subst hj; simp [Addr.add]
theorem blk_grown {w w' : World} {g e gm : Nat} {cs : Array Value} (h : Blk w g e cs) (hg : w.grownBy w' (some gm)) (hne : g ≠ gm) : Blk w' g e cs := (World.grownBy.block hg g h.lt (by simpa using hne)).trans h
def SOrel (ov cv : Value) (wx w : World) (gm nn : Nat) (fl : List En) : Prop := ∃ (j : Nat) (A : Option Addr) (n cc : Nat) (zs : List Int), Hid ((j = 0 ∧ cv = .int .i64 2) ∨ (j = 1 ∧ cv = .int .i64 3) ∨ (j = 2 ∧ cv = .int .i64 4) ∨ (j = 3 ∧ cv = .int .i64 5) ∨ (j = 4 ∧ cv = .int .i64 6)) ∧ ov = .slice A n cc ∧ n ≤ 1 ∧ Hid (Row wx (gm + 1) 97 3 A n cc zs) ∧ (j ≤ 2 → n = 0 ∧ zs = []) ∧ (3 ≤ j → n = markN (fl) ∧ zs = markL (fl)) ∧ Hid (MM Tryz.prog 2 wx gm nn (markU (fl))) ∧ Hid (Below w.heap.size w wx) ∧ gm < wx.heap.size
set_option maxRecDepth 100000 in
set_option maxHeartbeats 8000000 in
theorem seenOver_yes (S L : Option Addr) (c d : Nat) (es l : List En) (w : World) (hS : Sl w 3 S (markN es) (markL es)) (hL : Sl w 9 L l.length (EN l)) (h : entsP (es ++ l)) :
    Calls Tryz.prog 37 #[.slice S (markN es) c, .slice L l.length d] w (RetRowB w 97 3 (markN (es ++ l)) (markL (es ++ l)) true) := by
  have hlen : es.length + l.length ≤ 8 := by have := h.1; simpa using this
  have HP := Lib.hid h
  have HIS := Lib.hid (On.below_of (fun _ hb => hS.below hb))
  have HIL := Lib.hid (On.below_of (fun _ hb => hL.below hb))
  have cok := seenOk_marks S c es w (by omega) hS
  clear h hS hL
  have hmm := @run_makeMap Tryz.prog
  obtain ⟨n0, hn0⟩ : ∃ q, q = markN es := ⟨_, rfl⟩
  have HN0 := Lib.hid hn0
  rw [← hn0] at cok ⊢
  clear hn0
  obtain ⟨m, hm⟩ : ∃ q, q = l.length := ⟨_, rfl⟩
  have HM_ := Lib.hid hm
  rw [← hm] at hlen ⊢
  clear hm
  go_enter Tryz.func37, Tryz.ntmps37
  go_wp2_with fail
  refine cok.mono ?_
  rintro e v0 ⟨rfl, b0⟩
  have f0 : Below w.heap.size w v0 := b0
  clear cok b0
  go_upto_region 6 with fail
  obtain ⟨v1, hv1⟩ : ∃ x : World, x = v0.alloc (.map #[] 0) := ⟨_, rfl⟩
  rw [← hv1]
  have f1 : Below w.heap.size w v1 := by rw [hv1]; exact f0.alloc f0.size _
  have z1 : v0.heap.size + 1 ≤ v1.heap.size := by rw [hv1]; simp
  have HMM : Hid (MM Tryz.prog 2 v1 v0.heap.size 0 none) := by rw [hv1]; exact Lib.hid (MM.made _ _ _)
  clear hv1
  obtain ⟨gm, hgm⟩ : ∃ q, q = v0.heap.size := ⟨_, rfl⟩
  rw [← hgm] at HMM
  try rw [← hgm]
  have lgm : w.heap.size ≤ gm := by have := f0.size; omega
  have mgm : gm < v1.heap.size := by omega
  have F1 := Lib.hid f1
  clear hgm f0 f1
  -- the first loop: the marks that came in
  go_wp2_with fail
  go_loopw [27] (fun iv wr => (iv = .int .i64 0 ∧ v1 = wr) ∨ (iv = .int .i64 1 ∧ n0 = 1 ∧ Hid (MM Tryz.prog 2 wr gm 1 (markU es)) ∧ Hid (Below w.heap.size w wr) ∧ gm < wr.heap.size)) (fun iv _ => 1 - (intOf iv).toNat)
  case atStart => exact .inl ⟨rfl, rfl⟩
  case round =>
    have hcases : (n0 = 1 ∧ ∃ b off, S = some ⟨b, off, none⟩ ∧ b < w.heap.size ∧ w.cell? ⟨b, off, none⟩ = some (.int .i64 4) ∧ w.cell? ⟨b, off + 1, none⟩ = some (.int .i64 es.length) ∧ w.cell? ⟨b, off + 2, none⟩ = some (.int .i64 es.length) ∧ markU es = some (4, (es.length : Int), (es.length : Int))) ∨ (n0 = 0 ∧ markU es = none) := by
      by_cases h : es.length = 0
      · exact .inr ⟨HN0.out.trans (markU_none h).2.1, (markU_none h).1⟩
      · have hS := HIS.out.out
        rw [(markU_some h).2.1, (markU_some h).2.2] at hS
        obtain ⟨b, off, h1, h2, h3, h4, h5⟩ := sl_mark hS
        exact .inl ⟨HN0.out.trans (markU_some h).2.1, b, off, h1, h2, h3, h4, h5, (markU_some h).1⟩
    have HCS := Lib.hid hcases
    clear hcases
    rcases hrel with ⟨rfl, rfl⟩ | ⟨rfl, hn1, HMM2, HF2, hg2⟩
    · rcases HCS.out with ⟨hn1, b, off, rfl, hb, h0, h1, h2, hu⟩ | ⟨hn1, hu⟩
      · subst hn1
        rw [← F1.out.cell (p := ⟨b, off, none⟩) hb] at h0
        rw [← F1.out.cell (p := ⟨b, off + 1, none⟩) hb] at h1
        rw [← F1.out.cell (p := ⟨b, off + 2, none⟩) hb] at h2
        have HU := Lib.hid hu
        clear hu
        go_upto_region 9 with fail
        obtain ⟨v2, hv2⟩ : ∃ x : World, x = v1.alloc (.cells #[.int .i64 4, .int .i64 es.length, .int .i64 es.length] 97) := ⟨_, rfl⟩
        rw [← hv2]
        have b2 : Below v1.heap.size v1 v2 := by rw [hv2]; exact (Below.refl _ _).alloc (Nat.le_refl _) _
        have K2 : Blk v2 v1.heap.size 97 #[.int .i64 4, .int .i64 es.length, .int .i64 es.length] := by rw [hv2]; exact Blk.new _ _ _
        clear hv2 h0 h1 h2
        have HM2 := HMM.out.below b2
        have F2 := Lib.hid (bthen F1.out b2)
        have z2 := b2.size
        have r0 := K2.cell 0
        have r1 := K2.cell 1
        have r2 := K2.cell 2
        have rl := K2.lt
        go_wp2_with (at_mapUpdate; refine wpList_mm_put rfl _ _ _ 168 rfl 2 97 Tryz.underlying2 Tryz.underlying168 gm 0 none rfl HM2 (by unfold maxLen; omega) rfl (4, (es.length : Int), (es.length : Int)) rfl ?_; intro w5 HM5 hg5)
        have A5 : Hid (MM Tryz.prog 2 w5 gm 1 (markU es)) := by rw [HU.out]; exact Lib.hid HM5
        have B5 : Hid (Below w.heap.size w w5) := Lib.hid (F2.out.grown hg5 (by have := F2.out.size; omega) (fun k hk => by cases hk; omega))
        have C5 : gm < w5.heap.size := by have := World.grownBy.size hg5; omega
        first
          | exact ⟨.inr ⟨rfl, rfl, A5, B5, C5⟩, by simp [intOf]⟩
          | exact ⟨⟨A5, B5, C5⟩, by simp [intOf]⟩
          | exact ⟨A5, B5, C5⟩
      · subst hn1
        go_wp2_with fail
        have HU0 : Hid (MM Tryz.prog 2 v1 gm 0 (markU es)) := (by rw [hu]; exact HMM)
        have cl := lastSeen_marks S c es v1 ((HIS.out).inB F1.out (fun _ hk => hk.2)).out
        rw [← HN0.out] at cl
        refine cl.mono ?_
        rintro e v3 ⟨rfl, b3⟩
        clear cl
        have HM3 := Lib.hid (HU0.out.below b3)
        have F3 := Lib.hid (bthen F1.out b3)
        have g3 : gm < v3.heap.size := by have := b3.size; omega
        clear b3 HU0
        go_wp2_with fail
        go_loopw [9, 40] (fun lv iv wr => ∃ k nn : Nat, k ≤ m ∧ nn ≤ 1 + k ∧ iv = .int .i64 k ∧ lv = .int .i64 ((es.length + k : Nat) : Int) ∧ Hid (MM Tryz.prog 2 wr gm nn (markU (es ++ l.take k))) ∧ Hid (Below w.heap.size w wr) ∧ gm < wr.heap.size) (fun _ iv _ => m - (intOf iv).toNat)
        case atStart => exact ⟨0, 0, Nat.zero_le _, by omega, rfl, by simp, by simpa using HM3, F3, g3⟩
        case round =>
          clear HM3 F3 g3
          obtain ⟨k, nn, hk, hnn, rfl, rfl, HMk, HFk, hgk⟩ := hrel
          by_cases hlt : k < m
          · have hlt' : (k : Int) < (m : Int) := by omega
            obtain ⟨c0, hc0⟩ := markU_V (es ++ l.take k)
            have hNk : (es ++ l.take k).length = es.length + k := by have := HM_.out; simp; omega
            rw [hNk] at hc0
            have hmk := Lib.hid (take_succ_app es l k (by rw [← HM_.out]; exact hlt))
            have hek := HP.out.app (k := k) (by rw [← HM_.out]; exact hlt)
            have hL := ((HIL.out).inB HFk.out (fun _ hk => hk.2)).out
            have hpos : 0 < l.length := by rw [← HM_.out]; omega
            obtain ⟨bL, oL, rfl, -, -⟩ := hL.at_ hpos
            obtain ⟨hbL, hcL⟩ := sl_entries hL hpos
            have hc := hcL k (by rw [← HM_.out]; exact hlt)
            clear hcL hL
            obtain ⟨en, hen⟩ : ∃ q, q = l.getD k default := ⟨_, rfl⟩
            rw [← hen] at hc hek hmk
            obtain ⟨ex, et, ec, es_, ek, ea, eb, eg, eh⟩ := en
            have hok := Lib.hid (entP_ok hek (by omega))
            obtain ⟨h1, h2, h3, -⟩ := hek
            simp only at h1 h2 h3 hok
            subst h1 h2 h3
            have q0 := hc 0 (by decide)
            have q1 := hc 1 (by decide)
            have q2 := hc 2 (by decide)
            have q3 := hc 3 (by decide)
            have q4 := hc 4 (by decide)
            have q5 := hc 5 (by decide)
            have q6 := hc 6 (by decide)
            have q7 := hc 7 (by decide)
            have q8 := hc 8 (by decide)
            simp only [List.getD_cons_zero, List.getD_cons_succ, Nat.add_zero] at q0 q1 q2 q3 q4 q5 q6 q7 q8
            obtain ⟨N, hN⟩ : ∃ N, N = es.length + k := ⟨_, rfl⟩
            rw [← hN] at q0 q3 hok hc0 ⊢
            have HN := Lib.hid hN
            have hc0h := Lib.hid hc0
            have hN8 : N ≤ 8 := by omega
            clear hc hen hN hc0
            go_wp2_with fail
            refine calls_named ?_
            rintro v4 hv4
            have b4 : Below wr.heap.size wr v4 := by rw [hv4]; exact (Below.refl _ _).alloc (Nat.le_refl _) _
            have K4 : Hid (Blk v4 wr.heap.size 76 #[.int .i64 ((N : Int) + 1), .int .i64 et, .int .i64 4, .int .i64 ((N : Int) + 1), .int .i64 ek, .int .i64 ea, .int .i64 eb, .int .i64 eg, .int .i64 eh]) := by rw [hv4]; exact Lib.hid (Blk.new _ _ _)
            clear hv4 q0 q1 q2 q3 q4 q5 q6 q7 q8
            have HM4 := Lib.hid (HMk.out.below b4)
            have F4 := Lib.hid (bthen HFk.out b4)
            obtain ⟨ge, hge⟩ : ∃ q, q = wr.heap.size := ⟨_, rfl⟩
            rw [← hge] at K4
            try rw [← hge]
            have lge : gm < ge := by omega
            clear b4 HMk HFk hge
            have ce := entryOk_any ((N : Int) + 1) et 4 ((N : Int) + 1) ek ea eb eg eh v4
            rw [hok.out] at ce
            refine ce.mono ?_
            rintro e v5 ⟨rfl, b5⟩
            clear ce
            have K5 := Lib.hid (K4.out.below b5)
            have HM5 := Lib.hid (HM4.out.below b5)
            have F5 := Lib.hid (bthen F4.out b5)
            have z5 := F5.out.size
            clear b5 K4 HM4 F4
            have look : (Instr.lookup 168 (.map (some gm)) (.int .i64 4) false).run Tryz.prog v5 = .ok (.agg #[.int .i64 c0, .int .i64 N, .int .i64 N]) v5 := by
              rw [← hc0h.out]
              exact HM5.out.look Tryz.underlying2 Tryz.underlying168 (zeroM97 _)
            have p0 : v5.cell? ⟨ge, 0, none⟩ = some (.int .i64 ((N : Int) + 1)) := K5.out.cell 0
            have p2 : v5.cell? ⟨ge, 2, none⟩ = some (.int .i64 4) := K5.out.cell 2
            have p3 : v5.cell? ⟨ge, 3, none⟩ = some (.int .i64 ((N : Int) + 1)) := K5.out.cell 3
            have pl := K5.out.lt
            have hN1 : ¬ (N : Int) + 1 ≤ (N : Int) := by omega
            have hfld := fun W : World => fieldMark1 c0 N N W
            have nge : ge ≠ gm := by omega
            go_wp2_with (first
              | (at_delete; refine wpList_mm_drop rfl _ _ 168 2 rfl 97 Tryz.underlying2 Tryz.underlying168 gm nn _ rfl HM5.out rfl ?_; intro w6 HM6 hg6; have K6 := blk_grown K5.out hg6 nge; have F6 := F5.out.grown hg6 z5 (fun k hk => by cases hk; exact lgm); have s0 : w6.cell? ⟨ge, 0, none⟩ = some (.int .i64 ((N : Int) + 1)) := K6.cell 0; have s2 : w6.cell? ⟨ge, 2, none⟩ = some (.int .i64 4) := K6.cell 2; have s3 : w6.cell? ⟨ge, 3, none⟩ = some (.int .i64 ((N : Int) + 1)) := K6.cell 3; have sl := K6.lt)
              | (at_mapUpdate; refine wpList_mm_put rfl _ _ _ 168 rfl 2 97 Tryz.underlying2 Tryz.underlying168 gm nn none rfl HM6 (by unfold maxLen; omega) rfl (4, (N : Int) + 1, (N : Int) + 1) rfl ?_; intro w7 HM7 hg7; have K7 := blk_grown K6 hg7 nge; have F7 := F6.grown hg7 (Below.size F6) (fun k hk => by cases hk; exact lgm); have t0 : w7.cell? ⟨ge, 0, none⟩ = some (.int .i64 ((N : Int) + 1)) := K7.cell 0; have tl := K7.lt))
            refine ⟨⟨k + 1, nn + 1, by omega, by omega, by go_num, ?_, ?_, Lib.hid F7, by omega⟩, by simp [intOf]; omega⟩
            · rw [show es.length + (k + 1) = N + 1 by have := HN.out; omega]
              go_num
            · have hnl : ((es ++ l.take k) ++ [⟨(N : Int) + 1, et, 4, (N : Int) + 1, ek, ea, eb, eg, eh⟩] : List En).length = N + 1 := by rw [List.length_append, hNk, HN.out]; rfl
              have e1 := hmk.out
              rw [show ((es.length + k : Nat) : Int) = (N : Int) by rw [HN.out]] at e1
              rw [e1, (markU_some (by rw [hnl]; omega)).1, hnl]
              exact Lib.hid HM7
          · have hkm : k = m := by omega
            subst hkm
            have ht : l.take k = l := by rw [HM_.out]; exact List.take_length
            rw [ht] at HMk
            have HFF := HFk
            go_upto_region 22 with fail
            obtain ⟨v7, hv7⟩ : ∃ x : World, x = wr.alloc (.cells #[] 97) := ⟨_, rfl⟩
            rw [← hv7]
            have b7 : Below wr.heap.size wr v7 := by rw [hv7]; exact (Below.refl _ _).alloc (Nat.le_refl _) _
            have R7 : Row v7 (gm + 1) 97 3 (some ⟨wr.heap.size, 0, none⟩) 0 0 [] := by rw [hv7]; exact row0p (Blk.new _ _ _) (by omega)
            have HM7 := Lib.hid (HMk.out.below b7)
            have F7 := Lib.hid (bthen HFk.out b7)
            have g7 : gm < v7.heap.size := by have := b7.size; omega
            have HR7 := Lib.hid R7
            clear hv7 b7 R7 HMk HFk HFF
            obtain ⟨gq, hgq⟩ : ∃ q, q = wr.heap.size := ⟨_, rfl⟩
            rw [← hgq] at HR7
            try rw [← hgq]
            clear hgq
            go_wp2_with fail
            go_loopw [12, 13] (fun ov cv wx => SOrel ov cv wx w gm nn (es ++ l)) (fun _ cv _ => 6 - (intOf cv).toNat)
            case atStart => unfold SOrel; exact ⟨0, _, 0, 0, [], Lib.hid (.inl ⟨rfl, rfl⟩), rfl, by decide, HR7, fun _ => ⟨rfl, rfl⟩, fun h => absurd h (by decide), HM7, F7, g7⟩
            case round =>
              clear HM7 F7 g7 HR7
              unfold SOrel at hrel
              obtain ⟨j, A, n, cc, zs, hj, rfl, hn1, HRx, h1, h3, HMx, HFx, hgx⟩ := hrel
              rcases hj.out with ⟨rfl, rfl⟩ | ⟨rfl, rfl⟩ | ⟨rfl, rfl⟩ | ⟨rfl, rfl⟩ | ⟨rfl, rfl⟩
              · have look := HMx.out.lookNo (t := 168) Tryz.underlying2 Tryz.underlying168 (zeroM97 _) (x := 2) (by decide) (by decide)
                go_wp2_with fail
                refine ⟨?_, by simp [intOf]⟩
                unfold SOrel
                exact ⟨1, A, n, cc, zs, Lib.hid (.inr (.inl ⟨rfl, rfl⟩)), rfl, hn1, Lib.hid (HRx.out.alloc _), fun h => h1 (by omega), fun h => absurd h (by omega), Lib.hid (HMx.out.below ((Below.refl _ _).alloc (Nat.le_refl _) _)), Lib.hid (HFx.out.alloc HFx.out.size _), by simp; omega⟩
              · have look := HMx.out.lookNo (t := 168) Tryz.underlying2 Tryz.underlying168 (zeroM97 _) (x := 3) (by decide) (by decide)
                go_wp2_with fail
                refine ⟨?_, by simp [intOf]⟩
                unfold SOrel
                exact ⟨2, A, n, cc, zs, Lib.hid (.inr (.inr (.inl ⟨rfl, rfl⟩))), rfl, hn1, Lib.hid (HRx.out.alloc _), fun h => h1 (by omega), fun h => absurd h (by omega), Lib.hid (HMx.out.below ((Below.refl _ _).alloc (Nat.le_refl _) _)), Lib.hid (HFx.out.alloc HFx.out.size _), by simp; omega⟩
              · obtain ⟨rfl, rfl⟩ := h1 (by omega)
                have look := HMx.out.lookOk (t := 168) Tryz.underlying2 Tryz.underlying168 (zeroM97 _)
                by_cases h0 : (es ++ l).length = 0
                · rw [(markU_none h0).1] at look
                  have look2 : (Instr.lookup 168 (.map (some gm)) (.int .i64 4) true).run Tryz.prog wr = .ok (.tuple #[.agg #[.int .i64 0, .int .i64 0, .int .i64 0], .bool false]) wr := look
                  have HH := Lib.hid (markU_none h0)
                  clear look h0
                  go_wp2_with fail
                  refine ⟨?_, by simp [intOf]⟩
                  unfold SOrel
                  exact ⟨3, A, 0, cc, [], Lib.hid (.inr (.inr (.inr (.inl ⟨rfl, rfl⟩)))), rfl, by decide, Lib.hid (HRx.out.alloc _), fun h => absurd h (by omega), fun h => ⟨HH.out.2.1.symm, HH.out.2.2.symm⟩, Lib.hid (HMx.out.below ((Below.refl _ _).alloc (Nat.le_refl _) _)), Lib.hid (HFx.out.alloc HFx.out.size _), by simp; omega⟩
                · rw [(markU_some h0).1] at look
                  obtain ⟨N, hN⟩ : ∃ N : Nat, N = (es ++ l).length := ⟨_, rfl⟩
                  rw [← hN] at look
                  have HN := Lib.hid hN
                  have look2 : (Instr.lookup 168 (.map (some gm)) (.int .i64 4) true).run Tryz.prog wr = .ok (.tuple #[.agg #[.int .i64 4, .int .i64 N, .int .i64 N], .bool true]) wr := look
                  have HH := Lib.hid (markU_some h0)
                  clear look h0 hN
                  have hgx2 : gm + 1 ≤ wr.heap.size := by omega
                  go_wp2_with (at_builtin; refine wpList_append_row2 rfl _ _ 43 rfl 97 (.agg #[.int .i64 0, .int .i64 0, .int .i64 0]) 3 24 Tryz.underlying43 info_MarkL (by first | kernel_rfl | simp [Value.cells]) (by decide) (gm + 1) A 0 cc [] rfl ((HRx.out.alloc _).alloc _) ⟨wr.heap.size + 1, 0, none⟩ 1 1 [4, (N : Int), (N : Int)] rfl rfl (cell_three_at (by simp)) (by decide) (by decide) (by simp; omega) ?_; intro A9 c9 w9 R9 B9 W9 L9)
                  have hne : ∀ a, A = some a → a.block ≠ gm := fun a ha => by have := HRx.out.ge a ha; omega
                  have HM9 : MM Tryz.prog 2 w9 gm nn (markU (es ++ l)) := ((HMx.out.below ((Below.refl _ _).alloc (Nat.le_refl _) _)).below ((Below.refl _ _).alloc (Nat.le_refl _) _)).kept W9 (by cases A with | none => simp | some a => simp only [Option.map_some, ne_eq, Option.some.injEq]; exact fun h => hne a rfl h.symm)
                  have F9 : Below w.heap.size w w9 := ((HFx.out.alloc HFx.out.size _).alloc (by have := HFx.out.size; simp; omega) _).trans (B9.mono (by omega))
                  have g9 : gm < w9.heap.size := by have := B9.size; simp at this; omega
                  refine ⟨?_, by simp [intOf]⟩
                  unfold SOrel
                  exact ⟨3, A9, 1, c9, [4, (N : Int), (N : Int)], Lib.hid (.inr (.inr (.inr (.inl ⟨rfl, rfl⟩)))), rfl, by decide, Lib.hid R9, fun h => absurd h (by omega), fun h => ⟨HH.out.2.1.symm, by rw [HH.out.2.2, HN.out]⟩, Lib.hid HM9, Lib.hid F9, g9⟩
              · have look := HMx.out.lookNo (t := 168) Tryz.underlying2 Tryz.underlying168 (zeroM97 _) (x := 5) (by decide) (by decide)
                go_wp2_with fail
                refine ⟨?_, by simp [intOf]⟩
                unfold SOrel
                exact ⟨4, A, n, cc, zs, Lib.hid (.inr (.inr (.inr (.inr ⟨rfl, rfl⟩)))), rfl, hn1, Lib.hid (HRx.out.alloc _), fun h => absurd h (by omega), fun h => h3 (by omega), Lib.hid (HMx.out.below ((Below.refl _ _).alloc (Nat.le_refl _) _)), Lib.hid (HFx.out.alloc HFx.out.size _), by simp; omega⟩
              · obtain ⟨rfl, rfl⟩ := h3 (by omega)
                obtain ⟨N, hN⟩ : ∃ N, N = markN (es ++ l) := ⟨_, rfl⟩
                rw [← hN] at HRx
                try rw [← hN]
                have HN := Lib.hid hN
                clear hN
                go_wp21
                refine bodyPost_ret (v := .tuple #[.slice A N cc, .bool true]) (by simp [results, Tryz.results37, go_sem, *]) rfl ?_
                exact ⟨A, cc, by rw [HN.out], by rw [← HN.out]; exact HRx.out.mono (show w.heap.size ≤ gm + 1 by omega), HFx.out⟩

    · have hn2 := hn1
      subst hn2
      have hu : markU es = markU es := rfl
      go_wp2_with fail
      have HU0 : Hid (MM Tryz.prog 2 wr gm 1 (markU es)) := HMM2
      have cl := lastSeen_marks S c es wr ((HIS.out).inB HF2.out (fun _ hk => hk.2)).out
      rw [← HN0.out] at cl
      refine cl.mono ?_
      rintro e v3 ⟨rfl, b3⟩
      clear cl
      have HM3 := Lib.hid (HU0.out.below b3)
      have F3 := Lib.hid (bthen HF2.out b3)
      have g3 : gm < v3.heap.size := by have := b3.size; omega
      clear b3 HU0
      go_wp2_with fail
      go_loopw [9, 40] (fun lv iv wr => ∃ k nn : Nat, k ≤ m ∧ nn ≤ 1 + k ∧ iv = .int .i64 k ∧ lv = .int .i64 ((es.length + k : Nat) : Int) ∧ Hid (MM Tryz.prog 2 wr gm nn (markU (es ++ l.take k))) ∧ Hid (Below w.heap.size w wr) ∧ gm < wr.heap.size) (fun _ iv _ => m - (intOf iv).toNat)
      case atStart => exact ⟨0, 1, Nat.zero_le _, by omega, rfl, by simp, by simpa using HM3, F3, g3⟩
      case round =>
        clear HM3 F3 g3
        obtain ⟨k, nn, hk, hnn, rfl, rfl, HMk, HFk, hgk⟩ := hrel
        by_cases hlt : k < m
        · have hlt' : (k : Int) < (m : Int) := by omega
          obtain ⟨c0, hc0⟩ := markU_V (es ++ l.take k)
          have hNk : (es ++ l.take k).length = es.length + k := by have := HM_.out; simp; omega
          rw [hNk] at hc0
          have hmk := Lib.hid (take_succ_app es l k (by rw [← HM_.out]; exact hlt))
          have hek := HP.out.app (k := k) (by rw [← HM_.out]; exact hlt)
          have hL := ((HIL.out).inB HFk.out (fun _ hk => hk.2)).out
          have hpos : 0 < l.length := by rw [← HM_.out]; omega
          obtain ⟨bL, oL, rfl, -, -⟩ := hL.at_ hpos
          obtain ⟨hbL, hcL⟩ := sl_entries hL hpos
          have hc := hcL k (by rw [← HM_.out]; exact hlt)
          clear hcL hL
          obtain ⟨en, hen⟩ : ∃ q, q = l.getD k default := ⟨_, rfl⟩
          rw [← hen] at hc hek hmk
          obtain ⟨ex, et, ec, es_, ek, ea, eb, eg, eh⟩ := en
          have hok := Lib.hid (entP_ok hek (by omega))
          obtain ⟨h1, h2, h3, -⟩ := hek
          simp only at h1 h2 h3 hok
          subst h1 h2 h3
          have q0 := hc 0 (by decide)
          have q1 := hc 1 (by decide)
          have q2 := hc 2 (by decide)
          have q3 := hc 3 (by decide)
          have q4 := hc 4 (by decide)
          have q5 := hc 5 (by decide)
          have q6 := hc 6 (by decide)
          have q7 := hc 7 (by decide)
          have q8 := hc 8 (by decide)
          simp only [List.getD_cons_zero, List.getD_cons_succ, Nat.add_zero] at q0 q1 q2 q3 q4 q5 q6 q7 q8
          obtain ⟨N, hN⟩ : ∃ N, N = es.length + k := ⟨_, rfl⟩
          rw [← hN] at q0 q3 hok hc0 ⊢
          have HN := Lib.hid hN
          have hc0h := Lib.hid hc0
          have hN8 : N ≤ 8 := by omega
          clear hc hen hN hc0
          go_wp2_with fail
          refine calls_named ?_
          rintro v4 hv4
          have b4 : Below wr.heap.size wr v4 := by rw [hv4]; exact (Below.refl _ _).alloc (Nat.le_refl _) _
          have K4 : Hid (Blk v4 wr.heap.size 76 #[.int .i64 ((N : Int) + 1), .int .i64 et, .int .i64 4, .int .i64 ((N : Int) + 1), .int .i64 ek, .int .i64 ea, .int .i64 eb, .int .i64 eg, .int .i64 eh]) := by rw [hv4]; exact Lib.hid (Blk.new _ _ _)
          clear hv4 q0 q1 q2 q3 q4 q5 q6 q7 q8
          have HM4 := Lib.hid (HMk.out.below b4)
          have F4 := Lib.hid (bthen HFk.out b4)
          obtain ⟨ge, hge⟩ : ∃ q, q = wr.heap.size := ⟨_, rfl⟩
          rw [← hge] at K4
          try rw [← hge]
          have lge : gm < ge := by omega
          clear b4 HMk HFk hge
          have ce := entryOk_any ((N : Int) + 1) et 4 ((N : Int) + 1) ek ea eb eg eh v4
          rw [hok.out] at ce
          refine ce.mono ?_
          rintro e v5 ⟨rfl, b5⟩
          clear ce
          have K5 := Lib.hid (K4.out.below b5)
          have HM5 := Lib.hid (HM4.out.below b5)
          have F5 := Lib.hid (bthen F4.out b5)
          have z5 := F5.out.size
          clear b5 K4 HM4 F4
          have look : (Instr.lookup 168 (.map (some gm)) (.int .i64 4) false).run Tryz.prog v5 = .ok (.agg #[.int .i64 c0, .int .i64 N, .int .i64 N]) v5 := by
            rw [← hc0h.out]
            exact HM5.out.look Tryz.underlying2 Tryz.underlying168 (zeroM97 _)
          have p0 : v5.cell? ⟨ge, 0, none⟩ = some (.int .i64 ((N : Int) + 1)) := K5.out.cell 0
          have p2 : v5.cell? ⟨ge, 2, none⟩ = some (.int .i64 4) := K5.out.cell 2
          have p3 : v5.cell? ⟨ge, 3, none⟩ = some (.int .i64 ((N : Int) + 1)) := K5.out.cell 3
          have pl := K5.out.lt
          have hN1 : ¬ (N : Int) + 1 ≤ (N : Int) := by omega
          have hfld := fun W : World => fieldMark1 c0 N N W
          have nge : ge ≠ gm := by omega
          go_wp2_with (first
            | (at_delete; refine wpList_mm_drop rfl _ _ 168 2 rfl 97 Tryz.underlying2 Tryz.underlying168 gm nn _ rfl HM5.out rfl ?_; intro w6 HM6 hg6; have K6 := blk_grown K5.out hg6 nge; have F6 := F5.out.grown hg6 z5 (fun k hk => by cases hk; exact lgm); have s0 : w6.cell? ⟨ge, 0, none⟩ = some (.int .i64 ((N : Int) + 1)) := K6.cell 0; have s2 : w6.cell? ⟨ge, 2, none⟩ = some (.int .i64 4) := K6.cell 2; have s3 : w6.cell? ⟨ge, 3, none⟩ = some (.int .i64 ((N : Int) + 1)) := K6.cell 3; have sl := K6.lt)
            | (at_mapUpdate; refine wpList_mm_put rfl _ _ _ 168 rfl 2 97 Tryz.underlying2 Tryz.underlying168 gm nn none rfl HM6 (by unfold maxLen; omega) rfl (4, (N : Int) + 1, (N : Int) + 1) rfl ?_; intro w7 HM7 hg7; have K7 := blk_grown K6 hg7 nge; have F7 := F6.grown hg7 (Below.size F6) (fun k hk => by cases hk; exact lgm); have t0 : w7.cell? ⟨ge, 0, none⟩ = some (.int .i64 ((N : Int) + 1)) := K7.cell 0; have tl := K7.lt))
          refine ⟨⟨k + 1, nn + 1, by omega, by omega, by go_num, ?_, ?_, Lib.hid F7, by omega⟩, by simp [intOf]; omega⟩
          · rw [show es.length + (k + 1) = N + 1 by have := HN.out; omega]
            go_num
          · have hnl : ((es ++ l.take k) ++ [⟨(N : Int) + 1, et, 4, (N : Int) + 1, ek, ea, eb, eg, eh⟩] : List En).length = N + 1 := by rw [List.length_append, hNk, HN.out]; rfl
            have e1 := hmk.out
            rw [show ((es.length + k : Nat) : Int) = (N : Int) by rw [HN.out]] at e1
            rw [e1, (markU_some (by rw [hnl]; omega)).1, hnl]
            exact Lib.hid HM7
        · have hkm : k = m := by omega
          subst hkm
          have ht : l.take k = l := by rw [HM_.out]; exact List.take_length
          rw [ht] at HMk
          have HFF := HFk
          go_upto_region 22 with fail
          obtain ⟨v7, hv7⟩ : ∃ x : World, x = wr.alloc (.cells #[] 97) := ⟨_, rfl⟩
          rw [← hv7]
          have b7 : Below wr.heap.size wr v7 := by rw [hv7]; exact (Below.refl _ _).alloc (Nat.le_refl _) _
          have R7 : Row v7 (gm + 1) 97 3 (some ⟨wr.heap.size, 0, none⟩) 0 0 [] := by rw [hv7]; exact row0p (Blk.new _ _ _) (by omega)
          have HM7 := Lib.hid (HMk.out.below b7)
          have F7 := Lib.hid (bthen HFk.out b7)
          have g7 : gm < v7.heap.size := by have := b7.size; omega
          have HR7 := Lib.hid R7
          clear hv7 b7 R7 HMk HFk HFF
          obtain ⟨gq, hgq⟩ : ∃ q, q = wr.heap.size := ⟨_, rfl⟩
          rw [← hgq] at HR7
          try rw [← hgq]
          clear hgq
          go_wp2_with fail
          go_loopw [12, 13] (fun ov cv wx => SOrel ov cv wx w gm nn (es ++ l)) (fun _ cv _ => 6 - (intOf cv).toNat)
          case atStart => unfold SOrel; exact ⟨0, _, 0, 0, [], Lib.hid (.inl ⟨rfl, rfl⟩), rfl, by decide, HR7, fun _ => ⟨rfl, rfl⟩, fun h => absurd h (by decide), HM7, F7, g7⟩
          case round =>
            clear HM7 F7 g7 HR7
            unfold SOrel at hrel
            obtain ⟨j, A, n, cc, zs, hj, rfl, hn1, HRx, h1, h3, HMx, HFx, hgx⟩ := hrel
            rcases hj.out with ⟨rfl, rfl⟩ | ⟨rfl, rfl⟩ | ⟨rfl, rfl⟩ | ⟨rfl, rfl⟩ | ⟨rfl, rfl⟩
            · have look := HMx.out.lookNo (t := 168) Tryz.underlying2 Tryz.underlying168 (zeroM97 _) (x := 2) (by decide) (by decide)
              go_wp2_with fail
              refine ⟨?_, by simp [intOf]⟩
              unfold SOrel
              exact ⟨1, A, n, cc, zs, Lib.hid (.inr (.inl ⟨rfl, rfl⟩)), rfl, hn1, Lib.hid (HRx.out.alloc _), fun h => h1 (by omega), fun h => absurd h (by omega), Lib.hid (HMx.out.below ((Below.refl _ _).alloc (Nat.le_refl _) _)), Lib.hid (HFx.out.alloc HFx.out.size _), by simp; omega⟩
            · have look := HMx.out.lookNo (t := 168) Tryz.underlying2 Tryz.underlying168 (zeroM97 _) (x := 3) (by decide) (by decide)
              go_wp2_with fail
              refine ⟨?_, by simp [intOf]⟩
              unfold SOrel
              exact ⟨2, A, n, cc, zs, Lib.hid (.inr (.inr (.inl ⟨rfl, rfl⟩))), rfl, hn1, Lib.hid (HRx.out.alloc _), fun h => h1 (by omega), fun h => absurd h (by omega), Lib.hid (HMx.out.below ((Below.refl _ _).alloc (Nat.le_refl _) _)), Lib.hid (HFx.out.alloc HFx.out.size _), by simp; omega⟩
            · obtain ⟨rfl, rfl⟩ := h1 (by omega)
              have look := HMx.out.lookOk (t := 168) Tryz.underlying2 Tryz.underlying168 (zeroM97 _)
              by_cases h0 : (es ++ l).length = 0
              · rw [(markU_none h0).1] at look
                have look2 : (Instr.lookup 168 (.map (some gm)) (.int .i64 4) true).run Tryz.prog wr = .ok (.tuple #[.agg #[.int .i64 0, .int .i64 0, .int .i64 0], .bool false]) wr := look
                have HH := Lib.hid (markU_none h0)
                clear look h0
                go_wp2_with fail
                refine ⟨?_, by simp [intOf]⟩
                unfold SOrel
                exact ⟨3, A, 0, cc, [], Lib.hid (.inr (.inr (.inr (.inl ⟨rfl, rfl⟩)))), rfl, by decide, Lib.hid (HRx.out.alloc _), fun h => absurd h (by omega), fun h => ⟨HH.out.2.1.symm, HH.out.2.2.symm⟩, Lib.hid (HMx.out.below ((Below.refl _ _).alloc (Nat.le_refl _) _)), Lib.hid (HFx.out.alloc HFx.out.size _), by simp; omega⟩
              · rw [(markU_some h0).1] at look
                obtain ⟨N, hN⟩ : ∃ N : Nat, N = (es ++ l).length := ⟨_, rfl⟩
                rw [← hN] at look
                have HN := Lib.hid hN
                have look2 : (Instr.lookup 168 (.map (some gm)) (.int .i64 4) true).run Tryz.prog wr = .ok (.tuple #[.agg #[.int .i64 4, .int .i64 N, .int .i64 N], .bool true]) wr := look
                have HH := Lib.hid (markU_some h0)
                clear look h0 hN
                have hgx2 : gm + 1 ≤ wr.heap.size := by omega
                go_wp2_with (at_builtin; refine wpList_append_row2 rfl _ _ 43 rfl 97 (.agg #[.int .i64 0, .int .i64 0, .int .i64 0]) 3 24 Tryz.underlying43 info_MarkL (by first | kernel_rfl | simp [Value.cells]) (by decide) (gm + 1) A 0 cc [] rfl ((HRx.out.alloc _).alloc _) ⟨wr.heap.size + 1, 0, none⟩ 1 1 [4, (N : Int), (N : Int)] rfl rfl (cell_three_at (by simp)) (by decide) (by decide) (by simp; omega) ?_; intro A9 c9 w9 R9 B9 W9 L9)
                have hne : ∀ a, A = some a → a.block ≠ gm := fun a ha => by have := HRx.out.ge a ha; omega
                have HM9 : MM Tryz.prog 2 w9 gm nn (markU (es ++ l)) := ((HMx.out.below ((Below.refl _ _).alloc (Nat.le_refl _) _)).below ((Below.refl _ _).alloc (Nat.le_refl _) _)).kept W9 (by cases A with | none => simp | some a => simp only [Option.map_some, ne_eq, Option.some.injEq]; exact fun h => hne a rfl h.symm)
                have F9 : Below w.heap.size w w9 := ((HFx.out.alloc HFx.out.size _).alloc (by have := HFx.out.size; simp; omega) _).trans (B9.mono (by omega))
                have g9 : gm < w9.heap.size := by have := B9.size; simp at this; omega
                refine ⟨?_, by simp [intOf]⟩
                unfold SOrel
                exact ⟨3, A9, 1, c9, [4, (N : Int), (N : Int)], Lib.hid (.inr (.inr (.inr (.inl ⟨rfl, rfl⟩)))), rfl, by decide, Lib.hid R9, fun h => absurd h (by omega), fun h => ⟨HH.out.2.1.symm, by rw [HH.out.2.2, HN.out]⟩, Lib.hid HM9, Lib.hid F9, g9⟩
            · have look := HMx.out.lookNo (t := 168) Tryz.underlying2 Tryz.underlying168 (zeroM97 _) (x := 5) (by decide) (by decide)
              go_wp2_with fail
              refine ⟨?_, by simp [intOf]⟩
              unfold SOrel
              exact ⟨4, A, n, cc, zs, Lib.hid (.inr (.inr (.inr (.inr ⟨rfl, rfl⟩)))), rfl, hn1, Lib.hid (HRx.out.alloc _), fun h => absurd h (by omega), fun h => h3 (by omega), Lib.hid (HMx.out.below ((Below.refl _ _).alloc (Nat.le_refl _) _)), Lib.hid (HFx.out.alloc HFx.out.size _), by simp; omega⟩
            · obtain ⟨rfl, rfl⟩ := h3 (by omega)
              obtain ⟨N, hN⟩ : ∃ N, N = markN (es ++ l) := ⟨_, rfl⟩
              rw [← hN] at HRx
              try rw [← hN]
              have HN := Lib.hid hN
              clear hN
              go_wp21
              refine bodyPost_ret (v := .tuple #[.slice A N cc, .bool true]) (by simp [results, Tryz.results37, go_sem, *]) rfl ?_
              exact ⟨A, cc, by rw [HN.out], by rw [← HN.out]; exact HRx.out.mono (show w.heap.size ≤ gm + 1 by omega), HFx.out⟩

end Go.Proofs.YtbheflinchabgaaGreatDoor
namespace Go.Proofs.YtbheflinchabgaaGreatDoor
set_option linter.unusedSimpArgs false
set_option linter.unusedVariables false
attribute [local go_sem] n_lt2 n_lt3 n_lt4 n_le2 n_le3
open Go.RowKit
attribute [local go_sem] Ext.cell Ext.frozen
theorem ENone {w : World} {g e : Nat} {ex et ec es_ ek ea eb eg eh : Int} (h : Blk w g e #[.int .i64 ex, .int .i64 et, .int .i64 ec, .int .i64 es_, .int .i64 ek, .int .i64 ea, .int .i64 eb, .int .i64 eg, .int .i64 eh]) : Sl w 9 (some ⟨g, 0, none⟩) 1 (EN [⟨ex, et, ec, es_, ek, ea, eb, eg, eh⟩]) :=
  (Blk.row (lo := 0) (n := 1) (zs := [ex, et, ec, es_, ek, ea, eb, eg, eh]) h (Nat.zero_le _) (by simp [maxLen]) (by simp) (by simp) (by intro j hj; match j, hj with | 0, _ => rfl | 1, _ => rfl | 2, _ => rfl | 3, _ => rfl | 4, _ => rfl | 5, _ => rfl | 6, _ => rfl | 7, _ => rfl | 8, _ => rfl)).sl
set_option maxRecDepth 100000 in
set_option maxHeartbeats 2000000 in
theorem marked_yes (S : Option Addr) (c : Nat) (es : List En) (ex et ec es_ ek ea eb eg eh : Int) (w : World) (hS : Sl w 3 S (markN es) (markL es)) (h : entsP (es ++ [⟨ex, et, ec, es_, ek, ea, eb, eg, eh⟩])) :
    Calls Tryz.prog 73 #[.slice S (markN es) c, .agg #[.int .i64 ex, .int .i64 et, .int .i64 ec, .int .i64 es_, .int .i64 ek, .int .i64 ea, .int .i64 eb, .int .i64 eg, .int .i64 eh]] w (RetRowB w 97 3 (markN (es ++ [⟨ex, et, ec, es_, ek, ea, eb, eg, eh⟩])) (markL (es ++ [⟨ex, et, ec, es_, ek, ea, eb, eg, eh⟩])) true) := by
  have HP := Lib.hid h
  have HIS := Lib.hid (On.below_of (fun _ hb => hS.below hb))
  obtain ⟨n0, hn0⟩ : ∃ q, q = markN es := ⟨_, rfl⟩
  have HN0 := Lib.hid hn0
  rw [← hn0]
  clear h hS hn0
  go_enter Tryz.func73, Tryz.ntmps73
  go_wp2_with fail
  refine calls_named ?_
  rintro v0 hv0
  have f0 : Below w.heap.size w v0 := by rw [hv0]; exact ((Below.refl _ _).alloc (Nat.le_refl _) _).alloc (by simp) _
  have K0 : Blk v0 (w.heap.size + 1) 76 #[.int .i64 ex, .int .i64 et, .int .i64 ec, .int .i64 es_, .int .i64 ek, .int .i64 ea, .int .i64 eb, .int .i64 eg, .int .i64 eh] := by rw [hv0]; exact Blk.new_at _ _ _ _ (by simp)
  clear hv0
  have cs := seenOver_yes S (some ⟨w.heap.size + 1, 0, none⟩) c 1 es [⟨ex, et, ec, es_, ek, ea, eb, eg, eh⟩] v0 ((HIS.out).inB f0 (fun _ hk => hk.2)).out (ENone K0) HP.out
  rw [← HN0.out] at cs
  simp only [List.length_singleton] at cs
  refine cs.mono ?_
  rintro e v1 ⟨A1, c1, rfl, R1, b1⟩
  have z0 := f0.size
  obtain ⟨N, hN⟩ : ∃ N, N = markN (es ++ [⟨ex, et, ec, es_, ek, ea, eb, eg, eh⟩]) := ⟨_, rfl⟩
  have HN := Lib.hid hN
  rw [← hN] at R1 ⊢
  clear cs hN
  go_wp21
  refine bodyPost_ret (v := .tuple #[.slice A1 N c1, .bool true]) (by simp [results, Tryz.results73, go_sem, *]) rfl ?_
  exact ⟨A1, c1, by rw [HN.out], by rw [← HN.out]; exact R1.mono z0, bthen f0 b1⟩
def zerosL (n : Nat) : List Int := List.replicate n 0
theorem zerosL_two (n : Nat) : zerosL n ++ [0, 0] = zerosL (n + 2) := by
  unfold zerosL
  rw [show ([0, 0] : List Int) = List.replicate 2 0 from rfl, List.replicate_append_replicate]
def HRrel (rv cv : Value) (wr w : World) (lo gb : Nat) (S : Option Addr) (c : Nat) : Prop := ∃ (j : Nat) (A : Option Addr) (n cc : Nat), ((j = 0 ∧ cv = .int .i64 2) ∨ (j = 1 ∧ cv = .int .i64 3) ∨ (j = 2 ∧ cv = .int .i64 4) ∨ (j = 3 ∧ cv = .int .i64 5) ∨ (j = 4 ∧ cv = .int .i64 6)) ∧ rv = .slice A n cc ∧ n = 3 + 2 * j ∧ Hid (Row wr lo 2 1 A n cc (zerosL n)) ∧ Hid (Blk wr gb 45 #[.int .i64 0, .int .i64 0, .int .i64 0, .slice S 0 c]) ∧ Hid (Below w.heap.size w wr) ∧ lo ≤ wr.heap.size
set_option maxRecDepth 100000 in
set_option maxHeartbeats 8000000 in
theorem headRow_zero (S : Option Addr) (c : Nat) (w : World) : Calls Tryz.prog 51 #[.agg #[.int .i64 0, .int .i64 0, .int .i64 0, .slice S 0 c]] w (RetRow w 2 1 13 headL) := by
  go_enter Tryz.func51, Tryz.ntmps51
  go_wp2_with fail
  refine calls_named ?_
  rintro v0 hv0
  have f0 : Below w.heap.size w v0 := by rw [hv0]; (repeat' (first | (with_reducible exact Below.refl _ _) | (with_reducible assumption) | (with_reducible refine Below.alloc ?_ ?_ _) | (with_reducible refine Below.drew ?_) | (with_reducible refine Below.setCell ?_ ?_ _) | (with_reducible refine bstep (by assumption) ?_ ?_) | (with_reducible exact Nat.le_refl _) | omega | (simp [*]; done) | (simp [*]; omega)))
  have z0 : w.heap.size + 1 ≤ v0.heap.size := by rw [hv0]; simp [size_set]
  have HB_0 : Hid (Blk v0 w.heap.size 45 #[.int .i64 0, .int .i64 0, .int .i64 0, .slice S 0 c]) := by rw [hv0]; exact Lib.hid ((Blk.new_at _ _ _ _ (by simp [size_set])))
  clear hv0
  obtain ⟨gB, hgB⟩ : ∃ q, q = w.heap.size := ⟨_, rfl⟩
  rw [← hgB] at HB_0
  try rw [← hgB]
  have lgB : w.heap.size ≤ gB := by omega
  have mgB : gB < v0.heap.size := by omega
  have ngB : ∀ k, w.heap.size ≤ k → k ≠ gB → True := fun _ _ _ => trivial
  clear ngB
  clear hgB
  refine (headOk_zero S c v0).mono ?_
  rintro e v1 ⟨rfl, b1⟩
  have f1 := bthen f0 b1
  have z1 := b1.size
  have HB_1 := Lib.hid (HB_0.out.below b1)
  clear HB_0
  have lt_B := HB_1.out.lt
  obtain ⟨r_B0, r_B1, r_B2, r_B3⟩ := bc4 HB_1.out
  go_upto_region 4 with fail
  obtain ⟨v2, hv2⟩ : ∃ x : World, x = (v1.alloc (.cells #[.int .i64 0, .int .i64 0, .int .i64 0] 2)) := ⟨_, rfl⟩
  rw [← hv2]
  have f2 : Below w.heap.size w v2 := by rw [hv2]; (repeat' (first | (with_reducible exact Below.refl _ _) | (with_reducible assumption) | (with_reducible refine Below.alloc ?_ ?_ _) | (with_reducible refine Below.drew ?_) | (with_reducible refine Below.setCell ?_ ?_ _) | (with_reducible refine bstep (by assumption) ?_ ?_) | (with_reducible exact Nat.le_refl _) | omega | (simp [*]; done) | (simp [*]; omega)))
  have z2 : v1.heap.size + 1 ≤ v2.heap.size := by rw [hv2]; simp [size_set]
  have HB_2 : Hid (Blk v2 gB 45 #[.int .i64 0, .int .i64 0, .int .i64 0, .slice S 0 c]) := by rw [hv2]; exact Lib.hid ((HB_1.out).alloc _)
  have HL_2 : Hid (Blk v2 v1.heap.size 2 #[.int .i64 0, .int .i64 0, .int .i64 0]) := by rw [hv2]; exact Lib.hid ((Blk.new_at _ _ _ _ (by simp [size_set])))
  clear lt_B r_B0 r_B1 r_B2 r_B3
  clear hv2 HB_1
  obtain ⟨gL, hgL⟩ : ∃ q, q = v1.heap.size := ⟨_, rfl⟩
  rw [← hgL] at HL_2
  try rw [← hgL]
  have lgL : v1.heap.size ≤ gL := by omega
  have mgL : gL < v2.heap.size := by omega
  have ngL : ∀ k, v1.heap.size ≤ k → k ≠ gL → True := fun _ _ _ => trivial
  clear ngL
  clear hgL
  go_wp2_with fail
  have HR3 : Hid (Row v2 v1.heap.size 2 1 (some ⟨gL, 0, none⟩) 3 3 (zerosL 3)) := Lib.hid (row_lit [0, 0, 0] HL_2.out rfl (by omega) (by simp [maxLen]) rfl)
  go_loopw [3, 4] (fun rv cv wr => HRrel rv cv wr w v1.heap.size gB S c) (fun _ cv _ => 6 - (intOf cv).toNat)
  case atStart => unfold HRrel; exact ⟨0, _, 3, 3, .inl ⟨rfl, rfl⟩, rfl, rfl, HR3, HB_2, Lib.hid f2, by omega⟩
  case round =>
    clear HR3 HB_2 HL_2 f2
    unfold HRrel at hrel
    obtain ⟨j, A, n, cc, hj, rfl, hn, HRx, HBx, HFx, hlo⟩ := hrel
    have lB := HBx.out.lt
    have r0 := HBx.out.cell 0
    have r3 : wr.cell? ⟨gB, 3, none⟩ = some (.slice S 0 c) := HBx.out.cell 3
    have zF := HFx.out.size
    rcases hj with ⟨rfl, rfl⟩ | ⟨rfl, rfl⟩ | ⟨rfl, rfl⟩ | ⟨rfl, rfl⟩ | ⟨rfl, rfl⟩
    · go_wp2_with fail
      refine (markOf_zero S c 2 wr).mono ?_
      rintro e v3 ⟨rfl, b3⟩
      have HR3 := Lib.hid (HRx.out.below b3)
      have HB3 := Lib.hid (HBx.out.below b3)
      have F3 := Lib.hid (bthen HFx.out b3)
      have z3 := b3.size
      clear HRx HBx HFx r0 r3 lB b3
      subst hn
      go_wp2_with (at_builtin; refine wpList_append_row2 rfl _ _ 59 rfl 2 (.int .i64 0) 1 8 Tryz.underlying59 info_Int64 (by first | kernel_rfl | simp [Value.cells]) (by decide) v1.heap.size A _ cc _ rfl ((HR3.out.alloc _).alloc _) ⟨v3.heap.size + 1, 0, none⟩ 2 2 [0, 0] rfl rfl (cell_two_at (by simp)) (by decide) (by decide) (by simp; omega) ?_; intro A9 c9 w9 R9 B9 W9 L9)
      have hne : ∀ a, A = some a → a.block ≠ gB := fun a ha => by have := HR3.out.ge a ha; omega
      have HB9 : Blk w9 gB 45 #[.int .i64 0, .int .i64 0, .int .i64 0, .slice S 0 c] := (((HB3.out.alloc _).alloc _).wroteA W9 hne)
      have F9 : Below w.heap.size w w9 := ((F3.out.alloc F3.out.size _).alloc (by have := F3.out.size; simp; omega) _).trans (B9.mono (by omega))
      have l9 : v1.heap.size ≤ w9.heap.size := by have := B9.size; simp at this; omega
      refine ⟨?_, by simp [intOf]⟩
      unfold HRrel
      exact ⟨1, A9, _, c9, (.inr (.inl ⟨rfl, rfl⟩)), rfl, rfl, Lib.hid (by have := R9; rw [zerosL_two] at this; exact this), Lib.hid HB9, Lib.hid F9, l9⟩
    · go_wp2_with fail
      refine (markOf_zero S c 3 wr).mono ?_
      rintro e v3 ⟨rfl, b3⟩
      have HR3 := Lib.hid (HRx.out.below b3)
      have HB3 := Lib.hid (HBx.out.below b3)
      have F3 := Lib.hid (bthen HFx.out b3)
      have z3 := b3.size
      clear HRx HBx HFx r0 r3 lB b3
      subst hn
      go_wp2_with (at_builtin; refine wpList_append_row2 rfl _ _ 59 rfl 2 (.int .i64 0) 1 8 Tryz.underlying59 info_Int64 (by first | kernel_rfl | simp [Value.cells]) (by decide) v1.heap.size A _ cc _ rfl ((HR3.out.alloc _).alloc _) ⟨v3.heap.size + 1, 0, none⟩ 2 2 [0, 0] rfl rfl (cell_two_at (by simp)) (by decide) (by decide) (by simp; omega) ?_; intro A9 c9 w9 R9 B9 W9 L9)
      have hne : ∀ a, A = some a → a.block ≠ gB := fun a ha => by have := HR3.out.ge a ha; omega
      have HB9 : Blk w9 gB 45 #[.int .i64 0, .int .i64 0, .int .i64 0, .slice S 0 c] := (((HB3.out.alloc _).alloc _).wroteA W9 hne)
      have F9 : Below w.heap.size w w9 := ((F3.out.alloc F3.out.size _).alloc (by have := F3.out.size; simp; omega) _).trans (B9.mono (by omega))
      have l9 : v1.heap.size ≤ w9.heap.size := by have := B9.size; simp at this; omega
      refine ⟨?_, by simp [intOf]⟩
      unfold HRrel
      exact ⟨2, A9, _, c9, (.inr (.inr (.inl ⟨rfl, rfl⟩))), rfl, rfl, Lib.hid (by have := R9; rw [zerosL_two] at this; exact this), Lib.hid HB9, Lib.hid F9, l9⟩
    · go_wp2_with fail
      refine (markOf_zero S c 4 wr).mono ?_
      rintro e v3 ⟨rfl, b3⟩
      have HR3 := Lib.hid (HRx.out.below b3)
      have HB3 := Lib.hid (HBx.out.below b3)
      have F3 := Lib.hid (bthen HFx.out b3)
      have z3 := b3.size
      clear HRx HBx HFx r0 r3 lB b3
      subst hn
      go_wp2_with (at_builtin; refine wpList_append_row2 rfl _ _ 59 rfl 2 (.int .i64 0) 1 8 Tryz.underlying59 info_Int64 (by first | kernel_rfl | simp [Value.cells]) (by decide) v1.heap.size A _ cc _ rfl ((HR3.out.alloc _).alloc _) ⟨v3.heap.size + 1, 0, none⟩ 2 2 [0, 0] rfl rfl (cell_two_at (by simp)) (by decide) (by decide) (by simp; omega) ?_; intro A9 c9 w9 R9 B9 W9 L9)
      have hne : ∀ a, A = some a → a.block ≠ gB := fun a ha => by have := HR3.out.ge a ha; omega
      have HB9 : Blk w9 gB 45 #[.int .i64 0, .int .i64 0, .int .i64 0, .slice S 0 c] := (((HB3.out.alloc _).alloc _).wroteA W9 hne)
      have F9 : Below w.heap.size w w9 := ((F3.out.alloc F3.out.size _).alloc (by have := F3.out.size; simp; omega) _).trans (B9.mono (by omega))
      have l9 : v1.heap.size ≤ w9.heap.size := by have := B9.size; simp at this; omega
      refine ⟨?_, by simp [intOf]⟩
      unfold HRrel
      exact ⟨3, A9, _, c9, (.inr (.inr (.inr (.inl ⟨rfl, rfl⟩)))), rfl, rfl, Lib.hid (by have := R9; rw [zerosL_two] at this; exact this), Lib.hid HB9, Lib.hid F9, l9⟩
    · go_wp2_with fail
      refine (markOf_zero S c 5 wr).mono ?_
      rintro e v3 ⟨rfl, b3⟩
      have HR3 := Lib.hid (HRx.out.below b3)
      have HB3 := Lib.hid (HBx.out.below b3)
      have F3 := Lib.hid (bthen HFx.out b3)
      have z3 := b3.size
      clear HRx HBx HFx r0 r3 lB b3
      subst hn
      go_wp2_with (at_builtin; refine wpList_append_row2 rfl _ _ 59 rfl 2 (.int .i64 0) 1 8 Tryz.underlying59 info_Int64 (by first | kernel_rfl | simp [Value.cells]) (by decide) v1.heap.size A _ cc _ rfl ((HR3.out.alloc _).alloc _) ⟨v3.heap.size + 1, 0, none⟩ 2 2 [0, 0] rfl rfl (cell_two_at (by simp)) (by decide) (by decide) (by simp; omega) ?_; intro A9 c9 w9 R9 B9 W9 L9)
      have hne : ∀ a, A = some a → a.block ≠ gB := fun a ha => by have := HR3.out.ge a ha; omega
      have HB9 : Blk w9 gB 45 #[.int .i64 0, .int .i64 0, .int .i64 0, .slice S 0 c] := (((HB3.out.alloc _).alloc _).wroteA W9 hne)
      have F9 : Below w.heap.size w w9 := ((F3.out.alloc F3.out.size _).alloc (by have := F3.out.size; simp; omega) _).trans (B9.mono (by omega))
      have l9 : v1.heap.size ≤ w9.heap.size := by have := B9.size; simp at this; omega
      refine ⟨?_, by simp [intOf]⟩
      unfold HRrel
      exact ⟨4, A9, _, c9, (.inr (.inr (.inr (.inr ⟨rfl, rfl⟩)))), rfl, rfl, Lib.hid (by have := R9; rw [zerosL_two] at this; exact this), Lib.hid HB9, Lib.hid F9, l9⟩
    · subst hn
      go_wp2_with (at_builtin; refine wpList_append_row2 rfl _ _ 59 rfl 2 (.int .i64 0) 1 8 Tryz.underlying59 info_Int64 (by first | kernel_rfl | simp [Value.cells]) (by decide) v1.heap.size A _ cc _ rfl (HRx.out.alloc _) ⟨wr.heap.size, 0, none⟩ 2 2 [0, 0] rfl rfl (cell_two_at (by simp)) (by decide) (by decide) (by simp; omega) ?_; intro A9 c9 w9 R9 B9 W9 L9)
      go_ret
      exact RetRow.mk (by have h5 := R9; rw [zerosL_two] at h5; exact Row.mono h5 (by omega)) ((HFx.out.alloc HFx.out.size _).trans (B9.mono (by omega)))
set_option maxHeartbeats 1000000 in
theorem rowHead_no (A : Option Addr) (n cap : Nat) (w : World) (hn : n ≠ 13) (hcm : n ≤ maxLen) :
    Calls Tryz.prog 115 #[.slice A n cap] w fun e w' => e = .returned (.tuple #[.agg #[.int .i64 0, .int .i64 0, .int .i64 0, .slice none 0 0], .bool false]) ∧ Below w.heap.size w w' := by
  have h1 : ¬ (n : Int) = 13 := by omega
  have h2 : ((n : Int) != 13) = true := by simpa using h1
  unfold maxLen at hcm
  go_enter Tryz.func115, Tryz.ntmps115
  go_wp21
  refine bodyPost_ret (v := .tuple #[.agg #[.int .i64 0, .int .i64 0, .int .i64 0, .slice none 0 0], .bool false]) (by simp [results, Tryz.results115, go_sem, *]) rfl ?_
  exact ⟨rfl, by (repeat' (first | (with_reducible exact Below.refl _ _) | (with_reducible assumption) | (with_reducible refine Below.alloc ?_ ?_ _) | (with_reducible refine Below.drew ?_) | (with_reducible refine Below.setCell ?_ ?_ _) | (with_reducible refine bstep (by assumption) ?_ ?_) | (with_reducible exact Nat.le_refl _) | omega | (simp [*]; done) | (simp [*]; omega)))⟩
def RHrel (cv : Value) (wr w : World) (gr gh : Nat) : Prop := ∃ (j : Nat), ((j = 0 ∧ cv = .int .i64 0) ∨ (j = 1 ∧ cv = .int .i64 1) ∨ (j = 2 ∧ cv = .int .i64 2) ∨ (j = 3 ∧ cv = .int .i64 3) ∨ (j = 4 ∧ cv = .int .i64 4)) ∧ Hid (Blk wr gr 45 #[.int .i64 0, .int .i64 0, .int .i64 0, .slice none 0 0]) ∧ Hid (Blk wr gh 45 #[.int .i64 0, .int .i64 0, .int .i64 0, .slice none 0 0]) ∧ Hid (Below w.heap.size w wr)
set_option maxRecDepth 100000 in
set_option maxHeartbeats 8000000 in
theorem rowHead_zero (b off cap : Nat) (w : World) (hS : Sl w 1 (some ⟨b, off, none⟩) 13 headL) : Calls Tryz.prog 115 #[.slice (some ⟨b, off, none⟩) 13 cap] w fun e w' => e = .returned (.tuple #[.agg #[.int .i64 0, .int .i64 0, .int .i64 0, .slice none 0 0], .bool true]) ∧ Below w.heap.size w w' := by
  have hlt := (hS.cells (by decide)).1
  have hc : ∀ j, j < 13 → w.cell? ⟨b, off + j, none⟩ = some (.int .i64 0) := fun j hj => by
    rw [(hS.cells (by decide)).2 j hj]
    match j, hj with
    | 0, _ => rfl | 1, _ => rfl | 2, _ => rfl | 3, _ => rfl | 4, _ => rfl | 5, _ => rfl | 6, _ => rfl | 7, _ => rfl | 8, _ => rfl | 9, _ => rfl | 10, _ => rfl | 11, _ => rfl | 12, _ => rfl
  have HC := Lib.hid (fun (v : World) (hb : Below w.heap.size w v) (j : Nat) (hj : j < 13) => (hb.cell (p := ⟨b, off + j, none⟩) hlt).trans (hc j hj))
  clear hc hS
  go_enter Tryz.func115, Tryz.ntmps115
  go_upto_region 3 with fail
  obtain ⟨v0, hv0⟩ : ∃ x : World, x = (w.alloc (.cells #[.int .i64 0, .int .i64 0, .int .i64 0, .slice none 0 0] 45)) := ⟨_, rfl⟩
  rw [← hv0]
  have f0 : Below w.heap.size w v0 := by rw [hv0]; (repeat' (first | (with_reducible exact Below.refl _ _) | (with_reducible assumption) | (with_reducible refine Below.alloc ?_ ?_ _) | (with_reducible refine Below.drew ?_) | (with_reducible refine Below.setCell ?_ ?_ _) | (with_reducible refine bstep (by assumption) ?_ ?_) | (with_reducible exact Nat.le_refl _) | omega | (simp [*]; done) | (simp [*]; omega)))
  have z0 : w.heap.size + 1 ≤ v0.heap.size := by rw [hv0]; simp [size_set]
  have HR_0 : Hid (Blk v0 w.heap.size 45 #[.int .i64 0, .int .i64 0, .int .i64 0, .slice none 0 0]) := by rw [hv0]; exact Lib.hid ((Blk.new_at _ _ _ _ (by simp [size_set])))
  clear hv0
  obtain ⟨gR, hgR⟩ : ∃ q, q = w.heap.size := ⟨_, rfl⟩
  rw [← hgR] at HR_0
  try rw [← hgR]
  have lgR : w.heap.size ≤ gR := by omega
  have mgR : gR < v0.heap.size := by omega
  have ngR : ∀ k, w.heap.size ≤ k → k ≠ gR → True := fun _ _ _ => trivial
  clear ngR
  clear hgR
  have c0 : v0.cell? ⟨b, off + 0, none⟩ = some (.int .i64 0) := HC.out v0 f0 0 (by decide)
  have c1 : v0.cell? ⟨b, off + 1, none⟩ = some (.int .i64 0) := HC.out v0 f0 1 (by decide)
  have c2 : v0.cell? ⟨b, off + 2, none⟩ = some (.int .i64 0) := HC.out v0 f0 2 (by decide)
  simp only [Nat.add_zero] at c0
  have hb0 : b < gR := by omega
  have hS0 : ∀ b o, b < gR → v0.cell? ⟨b, o, none⟩ = v0.cell? ⟨b, o, none⟩ := fun _ _ _ => rfl
  have hg0 : gR ≤ v0.heap.size := by omega
  go_cut [4] from 8 (fun px wx => px = .pointer (some ⟨v0.heap.size, 0, none⟩) ∧ Blk wx v0.heap.size 45 #[.int .i64 0, .int .i64 0, .int .i64 0, .slice none 0 0] ∧ Below v0.heap.size v0 wx)
  case first =>
    go_region_held_law (fun w' => ∀ b o, b < gR → w'.cell? ⟨b, o, none⟩ = v0.cell? ⟨b, o, none⟩) (repeat' (first | with_reducible assumption | with_reducible exact Nat.le_refl _ | with_reducible exact hS0 | with_reducible refine rd_drew ?_ | with_reducible refine hd_alloc ?_ ?_ _ | with_reducible refine rd_set ?_ ?_ _ _)) (fail)
    all_goals
      go_wp2_with fail
      go_meet
      first
        | exact ⟨rfl, Blk.new_at _ _ _ _ rfl, by (repeat' (first | (with_reducible exact Below.refl _ _) | (with_reducible assumption) | (with_reducible refine Below.alloc ?_ ?_ _) | (with_reducible refine Below.drew ?_) | (with_reducible refine Below.setCell ?_ ?_ _) | (with_reducible refine bstep (by assumption) ?_ ?_) | (with_reducible exact Nat.le_refl _) | omega | (simp [*]; done) | (simp [*]; omega)))⟩
        | exact ⟨rfl, ((((Blk.new_at _ _ _ _ rfl).set_ 0 _).set_ 1 _).set_ 2 _).set_ 3 _, by (repeat' (first | (with_reducible exact Below.refl _ _) | (with_reducible assumption) | (with_reducible refine Below.alloc ?_ ?_ _) | (with_reducible refine Below.drew ?_) | (with_reducible refine Below.setCell ?_ ?_ _) | (with_reducible refine bstep (by assumption) ?_ ?_) | (with_reducible exact Nat.le_refl _) | omega | (simp [*]; done) | (simp [*]; omega)))⟩
  case rest =>
    obtain ⟨rfl, KE, b1⟩ := hcut
    rename World => v1
    clear c0 c1 c2 hS0
    obtain ⟨gH, hgH⟩ : ∃ q, q = v0.heap.size := ⟨_, rfl⟩
    have f1 := Lib.hid (bthen f0 b1)
    have HR1 := Lib.hid (HR_0.out.below b1)
    have HKE := Lib.hid KE
    clear KE b1 HR_0
    rw [← hgH] at HKE
    try rw [← hgH]
    have nRH : gR < gH := by omega
    clear hgH
    go_wp2_with fail
    go_loopw [5] (fun cv wr => RHrel cv wr w gR gH) (fun cv _ => 6 - (intOf cv).toNat)
    case atStart => unfold RHrel; exact ⟨0, .inl ⟨rfl, rfl⟩, HR1, HKE, f1⟩
    case round =>
      clear HR1 HKE f1
      unfold RHrel at hrel
      obtain ⟨j, hj, HRx, HHx, HFx⟩ := hrel
      have lH := HHx.out.lt
      have r0 := HHx.out.cell 0
      have r1 := HHx.out.cell 1
      have r2 := HHx.out.cell 2
      have r3 := HHx.out.cell 3
      rcases hj with ⟨rfl, rfl⟩ | ⟨rfl, rfl⟩ | ⟨rfl, rfl⟩ | ⟨rfl, rfl⟩ | ⟨rfl, rfl⟩
      · have c1 : wr.cell? ⟨b, off + 3, none⟩ = some (.int .i64 0) := HC.out wr HFx.out 3 (by decide)
        have c2 : wr.cell? ⟨b, off + 4, none⟩ = some (.int .i64 0) := HC.out wr HFx.out 4 (by decide)
        go_wp2_with fail
        go_quiet (fail)
        go_wp2_with fail
        refine ⟨?_, by simp [intOf]⟩
        unfold RHrel
        exact ⟨1, (.inr (.inl ⟨rfl, rfl⟩)), Lib.hid (HRx.out.below (below_drewN (Below.refl _ _) _)), Lib.hid (HHx.out.below (below_drewN (Below.refl _ _) _)), Lib.hid (below_drewN HFx.out _)⟩
      · have c1 : wr.cell? ⟨b, off + 5, none⟩ = some (.int .i64 0) := HC.out wr HFx.out 5 (by decide)
        have c2 : wr.cell? ⟨b, off + 6, none⟩ = some (.int .i64 0) := HC.out wr HFx.out 6 (by decide)
        go_wp2_with fail
        go_quiet (fail)
        go_wp2_with fail
        refine ⟨?_, by simp [intOf]⟩
        unfold RHrel
        exact ⟨2, (.inr (.inr (.inl ⟨rfl, rfl⟩))), Lib.hid (HRx.out.below (below_drewN (Below.refl _ _) _)), Lib.hid (HHx.out.below (below_drewN (Below.refl _ _) _)), Lib.hid (below_drewN HFx.out _)⟩
      · have c1 : wr.cell? ⟨b, off + 7, none⟩ = some (.int .i64 0) := HC.out wr HFx.out 7 (by decide)
        have c2 : wr.cell? ⟨b, off + 8, none⟩ = some (.int .i64 0) := HC.out wr HFx.out 8 (by decide)
        go_wp2_with fail
        go_quiet (fail)
        go_wp2_with fail
        refine ⟨?_, by simp [intOf]⟩
        unfold RHrel
        exact ⟨3, (.inr (.inr (.inr (.inl ⟨rfl, rfl⟩)))), Lib.hid (HRx.out.below (below_drewN (Below.refl _ _) _)), Lib.hid (HHx.out.below (below_drewN (Below.refl _ _) _)), Lib.hid (below_drewN HFx.out _)⟩
      · have c1 : wr.cell? ⟨b, off + 9, none⟩ = some (.int .i64 0) := HC.out wr HFx.out 9 (by decide)
        have c2 : wr.cell? ⟨b, off + 10, none⟩ = some (.int .i64 0) := HC.out wr HFx.out 10 (by decide)
        go_wp2_with fail
        go_quiet (fail)
        go_wp2_with fail
        refine ⟨?_, by simp [intOf]⟩
        unfold RHrel
        exact ⟨4, (.inr (.inr (.inr (.inr ⟨rfl, rfl⟩)))), Lib.hid (HRx.out.below (below_drewN (Below.refl _ _) _)), Lib.hid (HHx.out.below (below_drewN (Below.refl _ _) _)), Lib.hid (below_drewN HFx.out _)⟩
      · have c1 : wr.cell? ⟨b, off + 11, none⟩ = some (.int .i64 0) := HC.out wr HFx.out 11 (by decide)
        have c2 : wr.cell? ⟨b, off + 12, none⟩ = some (.int .i64 0) := HC.out wr HFx.out 12 (by decide)
        have hlt2 : b < wr.heap.size := by have := HFx.out.size; omega
        go_wp2_with fail
        have hb := Below.refl wr.heap.size wr
        ((refine wp_region_ext (by kernel_rfl) (by kernel_rfl) ?_); (repeat (any_goals (first | go_big_quiet_step ((go_at_call 56; exact quiet_ext (headOk_zero _ _ _))) | (refine wpQuiet_step (fun K hK => ?_); go_simp; split <;> (refine hK _ ?_; clear hK K)) | quiet_step ((go_at_call 56; exact quiet_ext (headOk_zero _ _ _)))))); (all_goals (refine wpQuiet_nil ?_; rintro _ ⟨z, rfl⟩; have hb' := z.h; generalize z.w = w1 at hb' ⊢; clear z; (first | (have hb2 := bstep hb' hb hb.size; clear hb' hcb hfb hz1 hz2 hz3 hz4 hb; have hb := hb2; clear hb2) | (have hb := hb'; clear hb')); obtain ⟨hcb, hfb, hz1, hz2, hz3, hz4⟩ := bcell hb; (try simp only [World.size_alloc, World.size_setCell, World.size_drew, Nat.lt_add_one_iff, Nat.add_assoc, Nat.reduceAdd] at hz1 hz2 hz3 hz4))))
        all_goals
          have KH := HHx.out.below hb
          have KR := HRx.out.below hb
          have FF := bthen HFx.out hb
          clear r0 r1 r2 r3 lH c1 c2 hlt2 HRx HHx HFx
          have lH := KH.lt
          have r0 := KH.cell 0
          have r1 := KH.cell 1
          have r2 := KH.cell 2
          have r3 := KH.cell 3
          have lR := KR.lt
          have x0 := KR.cell 0
          have x1 := KR.cell 1
          have x2 := KR.cell 2
          have x3 := KR.cell 3
          obtain ⟨y0, y1, y2, y3⟩ := bf4 KR
          have nq1 : ¬ gR = gH := by omega
          have nq2 : ¬ gH = gR := by omega
          go_wp21
          refine bodyPost_ret (v := .tuple #[.agg #[.int .i64 0, .int .i64 0, .int .i64 0, .slice none 0 0], .bool true]) (by simp [results, Tryz.results115, go_sem, *]) rfl ?_
          exact ⟨rfl, (((FF.setCell (p := ⟨gR, 0, none⟩) (show w.heap.size ≤ gR by omega) _).setCell (p := ⟨gR, 1, none⟩) (show w.heap.size ≤ gR by omega) _).setCell (p := ⟨gR, 2, none⟩) (show w.heap.size ≤ gR by omega) _).setCell (p := ⟨gR, 3, none⟩) (show w.heap.size ≤ gR by omega) _⟩
end Go.Proofs.YtbheflinchabgaaGreatDoor
namespace Go.Proofs.YtbheflinchabgaaGreatDoor
set_option linter.unusedSimpArgs false
set_option linter.unusedVariables false
attribute [local go_sem] n_lt2 n_lt3 n_lt4 n_le2 n_le3
open Go.RowKit
theorem Blk.setRow {w : World} {g e : Nat} {old : Array Value} (h : Blk w g e old) (cs : Array Value) : Blk (w.setRow g cs) g e cs := setRow_heap w g old cs e (0, 0) h
theorem Blk.rowFar {w : World} {g e k : Nat} {c : Array Value} (h : Blk w g e c) (hne : g ≠ k) (cs : Array Value) : Blk (w.setRow k cs) g e c := (setRow_other w k g cs hne).trans h
theorem On.rowFar {S : Nat → Prop} {P : World → Prop} {w : World} (h : On S P w) {g : Nat} (hg : ¬ S g) (cs : Array Value) : On S P (w.setRow g cs) :=
  h.agr ⟨rfl, rfl, rfl, by rw [setRow_size]; exact Nat.le_refl _, fun k hk _ => setRow_other w g k cs (fun e => hg (by subst e; exact hk))⟩
theorem Below.rowFar {l : Nat} {w w' : World} (h : Below l w w') {g : Nat} (hg : l ≤ g) (cs : Array Value) : Below l w (w'.setRow g cs) :=
  ⟨h.os, h.tape, h.output, by rw [setRow_size]; exact h.size, fun k hk => (setRow_other w' g k cs (by omega)).trans (h.block k hk)⟩
theorem Row.rowFar {w : World} {lo : Nat} {e : TypeId} {s : Nat} {A : Option Addr} {n cap : Nat} {zs : List Int} (h : Row w lo e s A n cap zs) {g : Nat} (hg : ∀ a, A = some a → a.block ≠ g) (cs : Array Value) : Row (w.setRow g cs) lo e s A n cap zs :=
  h.keep (fun a ha => setRow_other w g a.block cs (hg a ha))
theorem setRow_fresh (W : World) (cs cs1 : Array Value) (t : Nat) : (W.alloc (.cells cs t)).setRow W.heap.size cs1 = W.alloc (.cells cs1 t) := by
  have h : ∀ (f : Obj → Obj) (x : Obj), (W.heap.push x).modify W.heap.size f = W.heap.push (f x) := by
    intro f x
    apply Array.ext_getElem?
    intro i
    simp only [Array.getElem?_modify, Array.getElem?_push]
    by_cases e : i = W.heap.size
    · subst e; simp
    · simp [e, Ne.symm e]
  show ({ W with heap := (W.heap.push _).modify W.heap.size _ } : World) = { W with heap := W.heap.push _ }
  rw [h]
theorem wpList_store_new {P : Program} {ops : Array Oper} {rest : List Oper} {o : Oper} {a : Act} {W : World} {Q : Exit → Act → World → Prop} (hgd : o.guard = none) (ty : TypeId) (x y : Operand) (ho : o.op = .store ty x y) (k : Nat) (cells old : Array Value) (hx : a.eval x = .pointer (some ⟨k, 0, none⟩)) (hy : a.eval y = .agg cells) (hk : k = W.heap.size)
    (hi : (P.info? ty).map (·.size) = some cells.size) (hold : old.size = cells.size) (h1 : cells.all (·.oneCell') = true) (hd : o.dst = none) (h : wpList P ops Q rest a (W.alloc (.cells cells ty))) : wpList P ops Q (o :: rest) a (W.alloc (.cells old ty)) := by
  subst hk
  refine wpList_store_row hgd ty x y ho W.heap.size cells hx hy ty old ?_ hi hold h1 ?_
  · show (W.heap.push _)[W.heap.size]? = _
    rw [Array.getElem?_push_size]
  · rw [setRow_fresh, hd]; exact h
theorem results_row_tmp {P : Program} {fn : Func} {p u : Tmp} {ty : TypeId} (h : fn.results = #[.cell p ty, .tmp u]) (tmps : Array Value) (w : World) (g : Nat) (t : TypeId) (cs : Array Value) (fr : Nat × Nat) (d : TypeDesc) (v : Value)
    (hp : tmps.getD p undef = .pointer (some ⟨g, 0, none⟩)) (hg : w.heap[g]? = some (.cells cs t fr))
    (hu : P.underlying ty = some d) (hd : (match d with | .struct _ | .array _ _ => true | _ => false) = true) (hi : (P.info? ty).map (·.size) = some cs.size) (hv : tmps.getD u undef = v) :
    (results fn tmps).run P w = .ok (.tuple #[.agg cs, v]) w := by
  rw [results_cell_tmp h, hp, hv]
  simp [asAddr, run_loadVar_row w g t ty cs fr d hg hu hd hi]
theorem blk_part {w : World} {g e : Nat} {cs : Array Value} (h : Blk w g e cs) (o k : Nat) (l : List Value) (hl : (cs.toList.drop o).take k = l) : w.rangeAt g o l := fun j v hj => by
  subst hl
  rw [h.cell, ← Array.getElem?_toList]
  rw [List.getElem?_take] at hj
  split at hj
  · rwa [List.getElem?_drop] at hj
  · cases hj
theorem blk_range {w : World} {g e : Nat} {cs : Array Value} (h : Blk w g e cs) (l : List Value) (hl : cs.toList = l) : w.rangeAt g 0 l := fun j v hj => by
  subst hl
  rw [Nat.zero_add, h.cell, ← Array.getElem?_toList]
  exact hj
end Go.Proofs.YtbheflinchabgaaGreatDoor
namespace Go.Proofs.YtbheflinchabgaaGreatDoor
set_option linter.unusedSimpArgs false
set_option linter.unusedVariables false
attribute [local go_sem] n_lt2 n_lt3 n_lt4 n_le2 n_le3
open Go.RowKit
attribute [local go_sem] Ext.cell Ext.frozen
/-- The write that waits: the entry that is not durable. -/
def waitN (es : List En) (D : Nat) : Nat := if D < es.length then 1 else 0
def waitD (es : List En) (D : Nat) : List (Int × List Int) := if D < es.length then [(((3 + D : Nat) : Int), slotW (es.getD D default))] else []
theorem waitN_le (es : List En) (D : Nat) : waitN es D ≤ 1 := by unfold waitN; split <;> decide
theorem oweN_le (es : List En) (D : Nat) : oweN es D ≤ 1 := by unfold oweN; split <;> decide
theorem markN_le (es : List En) : markN es ≤ 1 := by unfold markN; split <;> decide
theorem waitN_all (es : List En) : waitN es es.length = 0 := by simp [waitN]
theorem waitD_all (es : List En) : waitD es es.length = [] := by simp [waitD]
theorem oweN_all (es : List En) : oweN es es.length = 0 := by simp [oweN]
theorem oweL_all (es : List En) : oweL es es.length = [] := by simp [oweL]
/-- A node of the log: es are its entries, the first D are durable; z is what the other sectors hold. -/
structure LgW (w : World) (KA WA KB WB L S O : Option Addr) (lc m n ns no : Nat) (es : List En) (D : Nat) (z : List Int) : Prop where
  a : Dk w KA 22 WA m (diskL z (es.take D)) (waitD es D)
  b : Dk w KB 22 WB m (diskL z (es.take D)) (waitD es D)
  l : Sl w 9 L n (EN es)
  s : Sl w 3 S ns (markL es)
  o : Sl w 4 O no (oweL es D)
  hm : m = waitN es D
  hn : n = es.length
  hs : ns = markN es
  ho : no = oweN es D
  hl : n ≤ lc ∧ lc ≤ maxLen
  p : entsP es
  z : blankL z
  d1 : D ≤ es.length
  d2 : es.length ≤ D + 1
theorem LgW.below {w w' : World} {KA WA KB WB L S O : Option Addr} {lc m n ns no : Nat} {es : List En} {D : Nat} {z : List Int} (h : LgW w KA WA KB WB L S O lc m n ns no es D z) (hb : Below w.heap.size w w') : LgW w' KA WA KB WB L S O lc m n ns no es D z :=
  ⟨h.a.below hb, h.b.below hb, h.l.below hb, h.s.below hb, h.o.below hb, h.hm, h.hn, h.hs, h.ho, h.hl, h.p, h.z, h.d1, h.d2⟩
def RetLog (w : World) (es : List En) (D : Nat) (z : List Int) (wrap : Value → Value) (e : Ending) (w' : World) : Prop :=
  ∃ KA cA WA dA KB cB WB dB H hc X xc L lc S sc O oc m n ns no, e = .returned (wrap (.agg #[.slice KA 22 cA, .slice WA m dA, .slice KB 22 cB, .slice WB m dB, .int .i64 0, .int .i64 0, .int .i64 0, .slice H 0 hc, .int .i64 0, .int .i64 0, .int .i64 0, .slice X 0 xc, .bool false, .int .i64 0, .int .i64 0, .slice L n lc, .slice S ns sc, .int .i64 (D : Nat), .slice O no oc])) ∧ On (Rg w.heap.size w'.heap.size) (fun x => LgW x KA WA KB WB L S O lc m n ns no es D z) w' ∧ Below w.heap.size w w'
theorem disk_new : (List.replicate 22 ([] : List Int)).set 0 (withL headL) = diskL [] [] := rfl
set_option maxRecDepth 100000 in
set_option maxHeartbeats 4000000 in
theorem newKept_ok (w : World) : Calls Tryz.prog 21 #[] w (RetTw w 0 0 (diskL [] []) [] (diskL [] []) [] id) := by
  go_enter Tryz.func21, Tryz.ntmps21
  go_wp2_with fail
  refine calls_named ?_
  rintro v0 hv0
  have f0 : Below w.heap.size w v0 := by rw [hv0]; (repeat' (first | (with_reducible exact Below.refl _ _) | (with_reducible assumption) | (with_reducible refine Below.alloc ?_ ?_ _) | (with_reducible refine Below.drew ?_) | (with_reducible refine Below.setCell ?_ ?_ _) | (with_reducible refine bstep (by assumption) ?_ ?_) | (with_reducible exact Nat.le_refl _) | omega | (simp [*]; done) | (simp [*]; omega)))
  have z0 : w.heap.size + 1 ≤ v0.heap.size := by rw [hv0]; simp [size_set]
  have HR_0 : Hid (Blk v0 w.heap.size 42 #[.slice none 0 0, .slice none 0 0, .slice none 0 0, .slice none 0 0]) := by rw [hv0]; exact Lib.hid ((Blk.new_at _ _ _ _ (by simp [size_set])))
  clear hv0
  obtain ⟨gR, hgR⟩ : ∃ q, q = w.heap.size := ⟨_, rfl⟩
  rw [← hgR] at HR_0
  try rw [← hgR]
  have lgR : w.heap.size ≤ gR := by omega
  have mgR : gR < v0.heap.size := by omega
  have ngR : ∀ k, w.heap.size ≤ k → k ≠ gR → True := fun _ _ _ => trivial
  clear ngR
  clear hgR
  refine (newTwo_22 v0).mono ?_
  rintro e v1 ⟨KA, cA, WA, dA, KB, cB, WB, dB, rfl, hO, b1⟩
  have f1 := bthen f0 b1
  have z1 := b1.size
  have HR_1 := Lib.hid (HR_0.out.below b1)
  clear HR_0
  have HP_1 := Lib.hid (show On (Rg v0.heap.size v1.heap.size) (fun x => Dk x KA 22 WA 0 (List.replicate 22 []) [] ∧ Dk x KB 22 WB 0 (List.replicate 22 []) []) v1 from hO)
  clear hO
  go_wp2_with fail
  refine (headRow_zero none 0 v1).mono ?_
  rintro e v2 ⟨A, c, rfl, hr, b2⟩
  have f2 := bthen f1 b2
  have z2 := b2.size
  have HR_2 := Lib.hid (HR_1.out.below b2)
  have HP_2 := Lib.hid (HP_1.out.below b2)
  clear HR_1 HP_1
  have HX := Lib.hid hr
  clear hr
  go_wp2_with fail
  refine (mendedAt_any KA WA KB WB A cA dA cB dB 13 c (List.replicate 22 []) (List.replicate 22 []) 0 headL v2 HP_2.out.out.1 HP_2.out.out.2 (Rw.of_row HX.out) (by decide) ⟨by decide, headL_nums⟩ (by decide)).mono ?_
  rintro e v3 ⟨KA', cA', WA', dA', KB', cB', WB', dB', rfl, hO, b3⟩
  rw [disk_new] at hO
  have f3 := bthen f2 b3
  have z3 := b3.size
  have HR_3 := Lib.hid (HR_2.out.below b3)
  have HP_3 := Lib.hid (HP_2.out.below b3)
  clear HR_2 HP_2
  have HQ_3 := Lib.hid (show On (Rg v2.heap.size v3.heap.size) (fun x => Dk x KA' 22 WA' 0 (diskL [] []) [] ∧ Dk x KB' 22 WB' 0 (diskL [] []) []) v3 from hO)
  clear hO
  have lt_R := HR_3.out.lt
  obtain ⟨r_R0, r_R1, r_R2, r_R3⟩ := bc4 HR_3.out
  obtain ⟨z_R0, z_R1, z_R2, z_R3⟩ := bf4 HR_3.out
  go_wp21
  refine bodyPost_ret (v := .agg #[.slice KA' 22 cA', .slice WA' 0 dA', .slice KB' 22 cB', .slice WB' 0 dB']) (by simp [results, Tryz.results21, go_sem, *]) rfl ?_
  exact ⟨KA', cA', WA', dA', KB', cB', WB', dB', rfl, (((((HQ_3.out).far (g := gR) (Rg.no (by omega)) 0 _).far (g := gR) (Rg.no (by omega)) 1 _).far (g := gR) (Rg.no (by omega)) 2 _).far (g := gR) (Rg.no (by omega)) 3 _).sub (Rg.sub (by omega) (by simp only [size_set]; omega)), ((((f3).setCell (p := ⟨gR, 0, none⟩) (show w.heap.size ≤ gR by omega) _).setCell (p := ⟨gR, 1, none⟩) (show w.heap.size ≤ gR by omega) _).setCell (p := ⟨gR, 2, none⟩) (show w.heap.size ≤ gR by omega) _).setCell (p := ⟨gR, 3, none⟩) (show w.heap.size ≤ gR by omega) _⟩
set_option maxRecDepth 100000 in
set_option maxHeartbeats 4000000 in
theorem newLog_ok (w : World) : Calls Tryz.prog 8 #[] w (RetLog w [] 0 [] id) := by
  go_enter Tryz.func8, Tryz.ntmps8
  go_wp2_with fail
  refine calls_named ?_
  rintro v0 hv0
  have f0 : Below w.heap.size w v0 := by rw [hv0]; (repeat' (first | (with_reducible exact Below.refl _ _) | (with_reducible assumption) | (with_reducible refine Below.alloc ?_ ?_ _) | (with_reducible refine Below.drew ?_) | (with_reducible refine Below.setCell ?_ ?_ _) | (with_reducible refine bstep (by assumption) ?_ ?_) | (with_reducible exact Nat.le_refl _) | omega | (simp [*]; done) | (simp [*]; omega)))
  have z0 : w.heap.size + 1 ≤ v0.heap.size := by rw [hv0]; simp [size_set]
  have HR_0 : Hid (Blk v0 w.heap.size 51 #[.slice none 0 0, .slice none 0 0, .slice none 0 0, .slice none 0 0, .int .i64 0, .int .i64 0, .int .i64 0, .slice none 0 0, .int .i64 0, .int .i64 0, .int .i64 0, .slice none 0 0, .bool false, .int .i64 0, .int .i64 0, .slice none 0 0, .slice none 0 0, .int .i64 0, .slice none 0 0]) := by rw [hv0]; exact Lib.hid ((Blk.new_at _ _ _ _ (by simp [size_set])))
  clear hv0
  obtain ⟨gR, hgR⟩ : ∃ q, q = w.heap.size := ⟨_, rfl⟩
  rw [← hgR] at HR_0
  try rw [← hgR]
  have lgR : w.heap.size ≤ gR := by omega
  have mgR : gR < v0.heap.size := by omega
  have ngR : ∀ k, w.heap.size ≤ k → k ≠ gR → True := fun _ _ _ => trivial
  clear ngR
  clear hgR
  refine (newKept_ok v0).mono ?_
  rintro e v1 ⟨KA, cA, WA, dA, KB, cB, WB, dB, rfl, hO, b1⟩
  have f1 := bthen f0 b1
  have z1 := b1.size
  have HR_1 := Lib.hid (HR_0.out.below b1)
  clear HR_0
  have HP_1 := Lib.hid (show On (Rg v0.heap.size v1.heap.size) (fun x => Dk x KA 22 WA 0 (diskL [] []) [] ∧ Dk x KB 22 WB 0 (diskL [] []) []) v1 from hO)
  clear hO
  go_wp2_with (show wpList _ _ _ (Oper.mk _ (Op.store _ _ _) _ _ _ _ :: _) _ _; refine wpList_store_row rfl 51 _ _ rfl gR #[.slice KA 22 cA, .slice WA 0 dA, .slice KB 22 cB, .slice WB 0 dB, .int .i64 0, .int .i64 0, .int .i64 0, .slice none 0 0, .int .i64 0, .int .i64 0, .int .i64 0, .slice none 0 0, .bool false, .int .i64 0, .int .i64 0, .slice none 0 0, .slice none 0 0, .int .i64 0, .slice none 0 0] rfl rfl 51 #[.slice none 0 0, .slice none 0 0, .slice none 0 0, .slice none 0 0, .int .i64 0, .int .i64 0, .int .i64 0, .slice none 0 0, .int .i64 0, .int .i64 0, .int .i64 0, .slice none 0 0, .bool false, .int .i64 0, .int .i64 0, .slice none 0 0, .slice none 0 0, .int .i64 0, .slice none 0 0] HR_1.out (by kernel_rfl) rfl (by simp [Value.oneCell']) ?_)
  go_wp21
  refine bodyPost_ret (v := .agg #[.slice KA 22 cA, .slice WA 0 dA, .slice KB 22 cB, .slice WB 0 dB, .int .i64 0, .int .i64 0, .int .i64 0, .slice none 0 0, .int .i64 0, .int .i64 0, .int .i64 0, .slice none 0 0, .bool false, .int .i64 0, .int .i64 0, .slice none 0 0, .slice none 0 0, .int .i64 0, .slice none 0 0]) (results_cell_row rfl _ _ gR 51 #[.slice KA 22 cA, .slice WA 0 dA, .slice KB 22 cB, .slice WB 0 dB, .int .i64 0, .int .i64 0, .int .i64 0, .slice none 0 0, .int .i64 0, .int .i64 0, .int .i64 0, .slice none 0 0, .bool false, .int .i64 0, .int .i64 0, .slice none 0 0, .slice none 0 0, .int .i64 0, .slice none 0 0] (0, 0) _ rfl (HR_1.out.setRow _) Tryz.underlying51 rfl (by kernel_rfl)) rfl ?_
  refine ⟨KA, cA, WA, dA, KB, cB, WB, dB, none, 0, none, 0, none, 0, none, 0, none, 0, 0, 0, 0, 0, rfl, (((HP_1.out).rowFar (g := gR) (Rg.no (by omega)) _).sub (Rg.sub (by omega) (by simp only [setRow_size]; omega))).map (fun x h => ?_), Below.rowFar (f1) (g := gR) (show w.heap.size ≤ gR by omega) _⟩
  exact ⟨h.1, h.2, Sl.nil _ _ _, Sl.nil _ _ _, Sl.nil _ _ _, rfl, rfl, rfl, rfl, ⟨Nat.le_refl _, Nat.zero_le _⟩, entsP.nil, .inl rfl, Nat.le_refl _, Nat.le_succ _⟩
end Go.Proofs.YtbheflinchabgaaGreatDoor
namespace Go.Proofs.YtbheflinchabgaaGreatDoor
set_option linter.unusedSimpArgs false
set_option linter.unusedVariables false
attribute [local go_sem] n_lt2 n_lt3 n_lt4 n_le2 n_le3
open Go.RowKit
attribute [local go_sem] Ext.cell Ext.frozen
theorem sl_ack {w : World} {S : Option Addr} {a s i j : Int} (h : Sl w 4 S 1 [a, s, i, j]) : ∃ b off, S = some ⟨b, off, none⟩ ∧ b < w.heap.size ∧ w.cell? ⟨b, off, none⟩ = some (.int .i64 a) ∧ w.cell? ⟨b, off + 1, none⟩ = some (.int .i64 s) ∧ w.cell? ⟨b, off + 2, none⟩ = some (.int .i64 i) ∧ w.cell? ⟨b, off + 3, none⟩ = some (.int .i64 j) := by
  obtain ⟨b, off, hA, hb, hc⟩ := h.2 (by decide)
  exact ⟨b, off, hA, hb, hc 0 (by decide), hc 1 (by decide), hc 2 (by decide), hc 3 (by decide)⟩
set_option maxHeartbeats 1600000 in
theorem equalAck_zero (S U : Option Addr) (c d : Nat) (w : World) : Calls Tryz.prog 61 #[.slice S 0 c, .slice U 0 d] w fun e w' => e = .returned (.bool true) ∧ Below w.heap.size w w' := by
  go_enter Tryz.func61, Tryz.ntmps61
  go_wp2_with fail
  go_loopw [13] (fun iv wr => iv = .int .i64 0 ∧ w = wr) (fun _ _ => 0)
  case atStart => exact ⟨rfl, rfl⟩
  case round =>
    obtain ⟨rfl, rfl⟩ := hrel
    go_wp2
    go_ret
    exact ⟨rfl, Below.refl _ _⟩
set_option maxRecDepth 100000 in
set_option maxHeartbeats 2000000 in
theorem equalAck_one (S U : Option Addr) (c d : Nat) (k s i j : Int) (w : World) (hS : Sl w 4 S 1 [k, s, i, j]) (hU : Sl w 4 U 1 [k, s, i, j]) : Calls Tryz.prog 61 #[.slice S 1 c, .slice U 1 d] w fun e w' => e = .returned (.bool true) ∧ Below w.heap.size w w' := by
  obtain ⟨b, off, rfl, hb, h0, h1, h2, h3⟩ := sl_ack hS
  obtain ⟨b', off', rfl, hb', h0', h1', h2', h3'⟩ := sl_ack hU
  clear hS hU
  go_enter Tryz.func61, Tryz.ntmps61
  go_wp2_with fail
  go_loopw [13] (fun iv wr => (iv = .int .i64 0 ∧ w = wr) ∨ (iv = .int .i64 1 ∧ Hid (Below w.heap.size w wr))) (fun iv _ => 1 - (intOf iv).toNat)
  case atStart => exact .inl ⟨rfl, rfl⟩
  case round =>
    rcases hrel with ⟨rfl, rfl⟩ | ⟨rfl, HF⟩
    · go_wp2_with fail
      go_quiet (fail)
      go_wp2_with fail
      exact ⟨.inr ⟨rfl, Lib.hid (below_drewN (Below.refl _ _) _)⟩, by simp [intOf]⟩
    · go_wp2
      go_ret
      exact ⟨rfl, HF.out⟩
theorem equalAck_owe (S U : Option Addr) (c d n : Nat) (es : List En) (D : Nat) (w : World) (hn : n = oweN es D) (hS : Sl w 4 S n (oweL es D)) (hU : Sl w 4 U n (oweL es D)) : Calls Tryz.prog 61 #[.slice S n c, .slice U n d] w fun e w' => e = .returned (.bool true) ∧ Below w.heap.size w w' := by
  subst hn
  by_cases h : D < es.length
  · have e1 : oweN es D = 1 := by unfold oweN; rw [if_pos h]
    have e2 : oweL es D = [4, (es.length : Int), (es.length : Int), (es.length : Int)] := by unfold oweL; rw [if_pos h]
    rw [e1, e2] at hS hU
    rw [e1]
    exact equalAck_one S U c d _ _ _ _ w hS hU
  · have e1 : oweN es D = 0 := by unfold oweN; rw [if_neg h]
    rw [e1]
    exact equalAck_zero S U c d w
set_option maxRecDepth 100000 in
set_option maxHeartbeats 4000000 in
theorem nextOk_yes (KA : Option Addr) (cA : Nat) (WA : Option Addr) (dA : Nat) (KB : Option Addr) (cB : Nat) (WB : Option Addr) (dB : Nat) (H : Option Addr) (hc : Nat) (X : Option Addr) (xc : Nat) (L : Option Addr) (lc : Nat) (S : Option Addr) (sc : Nat) (O : Option Addr) (oc : Nat) (m n ns no D : Nat) (w : World) : Calls Tryz.prog 60 #[.agg #[.slice KA 22 cA, .slice WA m dA, .slice KB 22 cB, .slice WB m dB, .int .i64 0, .int .i64 0, .int .i64 0, .slice H 0 hc, .int .i64 0, .int .i64 0, .int .i64 0, .slice X 0 xc, .bool false, .int .i64 0, .int .i64 0, .slice L n lc, .slice S ns sc, .int .i64 (D : Nat), .slice O no oc]] w fun e w' => e = .returned (.bool true) ∧ Below w.heap.size w w' := by
  go_enter Tryz.func60, Tryz.ntmps60
  go_upto_region 1 with fail
  obtain ⟨v0, hv0⟩ : ∃ x : World, x = (w.alloc (.cells #[.slice KA 22 cA, .slice WA m dA, .slice KB 22 cB, .slice WB m dB, .int .i64 0, .int .i64 0, .int .i64 0, .slice H 0 hc, .int .i64 0, .int .i64 0, .int .i64 0, .slice X 0 xc, .bool false, .int .i64 0, .int .i64 0, .slice L n lc, .slice S ns sc, .int .i64 (D : Nat), .slice O no oc] 51)) := ⟨_, rfl⟩
  rw [← hv0]
  have f0 : Below w.heap.size w v0 := by rw [hv0]; (repeat' (first | (with_reducible exact Below.refl _ _) | (with_reducible assumption) | (with_reducible refine Below.alloc ?_ ?_ _) | (with_reducible refine Below.drew ?_) | (with_reducible refine Below.setCell ?_ ?_ _) | (with_reducible refine bstep (by assumption) ?_ ?_) | (with_reducible exact Nat.le_refl _) | omega | (simp [*]; done) | (simp [*]; omega)))
  have z0 : w.heap.size + 1 ≤ v0.heap.size := by rw [hv0]; simp [size_set]
  have HN_0 : Hid (Blk v0 w.heap.size 51 #[.slice KA 22 cA, .slice WA m dA, .slice KB 22 cB, .slice WB m dB, .int .i64 0, .int .i64 0, .int .i64 0, .slice H 0 hc, .int .i64 0, .int .i64 0, .int .i64 0, .slice X 0 xc, .bool false, .int .i64 0, .int .i64 0, .slice L n lc, .slice S ns sc, .int .i64 (D : Nat), .slice O no oc]) := by rw [hv0]; exact Lib.hid ((Blk.new_at _ _ _ _ (by simp [size_set])))
  clear hv0
  obtain ⟨gN, hgN⟩ : ∃ q, q = w.heap.size := ⟨_, rfl⟩
  rw [← hgN] at HN_0
  try rw [← hgN]
  have lgN : w.heap.size ≤ gN := by omega
  have mgN : gN < v0.heap.size := by omega
  have ngN : ∀ k, w.heap.size ≤ k → k ≠ gN → True := fun _ _ _ => trivial
  clear ngN
  clear hgN
  have lt_N := HN_0.out.lt
  obtain ⟨r_N0, r_N1, r_N2, r_N3, r_N4, r_N5, r_N6, r_N7, r_N8, r_N9, r_N10, r_N11, r_N12, r_N13, r_N14, r_N15, r_N16, r_N17, r_N18⟩ := bc19 HN_0.out
  go_wp2_with fail
  refine (sameHead_zero X none xc 0 v0).mono ?_
  rintro e v1 ⟨rfl, b1⟩
  go_wp2
  go_ret
  exact ⟨rfl, bthen f0 b1⟩
end Go.Proofs.YtbheflinchabgaaGreatDoor
namespace Go.Proofs.YtbheflinchabgaaGreatDoor
set_option linter.unusedSimpArgs false
set_option linter.unusedVariables false
attribute [local go_sem] n_lt2 n_lt3 n_lt4 n_le2 n_le3
open Go.RowKit
attribute [local go_sem] Ext.cell Ext.frozen
/-- The cells of the entry at k of a slice of entries. -/
theorem ent_cells {w : World} {L : Option Addr} {n : Nat} {es : List En} (h : Sl w 9 L n (EN es)) (hn : es.length = n) {k : Nat} (hk : k < n) : ∃ b off, L = some ⟨b, off, none⟩ ∧ b < w.heap.size ∧ w.cell? ⟨b, off + k * 9, none⟩ = some (.int .i64 (es.getD k default).x) ∧ w.cell? ⟨b, off + k * 9 + 1, none⟩ = some (.int .i64 (es.getD k default).t) ∧ w.cell? ⟨b, off + k * 9 + 2, none⟩ = some (.int .i64 (es.getD k default).c) ∧ w.cell? ⟨b, off + k * 9 + 3, none⟩ = some (.int .i64 (es.getD k default).s) ∧ w.cell? ⟨b, off + k * 9 + 4, none⟩ = some (.int .i64 (es.getD k default).k) ∧ w.cell? ⟨b, off + k * 9 + 5, none⟩ = some (.int .i64 (es.getD k default).a) ∧ w.cell? ⟨b, off + k * 9 + 6, none⟩ = some (.int .i64 (es.getD k default).b) ∧ w.cell? ⟨b, off + k * 9 + 7, none⟩ = some (.int .i64 (es.getD k default).g) ∧ w.cell? ⟨b, off + k * 9 + 8, none⟩ = some (.int .i64 (es.getD k default).h) := by
  obtain ⟨b, off, rfl, -, -⟩ := h.at_ (by omega)
  obtain ⟨hb, hc⟩ := sl_entries h (by omega)
  have h1 := hc k hk
  refine ⟨b, off, rfl, hb, ?_, ?_, ?_, ?_, ?_, ?_, ?_, ?_, ?_⟩
  · simpa using h1 0 (by decide)
  · exact h1 1 (by decide)
  · exact h1 2 (by decide)
  · exact h1 3 (by decide)
  · exact h1 4 (by decide)
  · exact h1 5 (by decide)
  · exact h1 6 (by decide)
  · exact h1 7 (by decide)
  · exact h1 8 (by decide)
theorem wrap_small {k : Int} (h : -1000000 ≤ k ∧ k ≤ 1000000) : IntKind.i64.wrap k = k := by rw [IntKind.wrap_i64]; omega
set_option maxRecDepth 100000 in
set_option maxHeartbeats 8000000 in
theorem entriesOk_yes (L : Option Addr) (n c : Nat) (es : List En) (w : World) (hL : Sl w 9 L n (EN es)) (h : entsP es) (hn : es.length = n) : Calls Tryz.prog 45 #[.slice L n c] w fun e w' => e = .returned (.bool true) ∧ Below w.heap.size w w' := by
  have HIL := Lib.hid (On.below_of (fun _ hb => hL.below hb))
  have HP := Lib.hid h
  have HN := Lib.hid hn
  have hn8 : n ≤ 8 := by have := h.1; omega
  clear hL h hn
  go_enter Tryz.func45, Tryz.ntmps45
  go_wp2_with fail
  go_loopw [10] (fun iv wr => ∃ k : Nat, k ≤ n ∧ iv = .int .i64 k ∧ Hid (Below w.heap.size w wr)) (fun iv _ => n - (intOf iv).toNat)
  case atStart => exact ⟨0, Nat.zero_le _, rfl, Lib.hid (Below.refl _ _)⟩
  case round =>
    obtain ⟨k, hk, rfl, HF⟩ := hrel
    by_cases hlt : k < n
    · have hlt' : (k : Int) < (n : Int) := by omega
      have hL := ((HIL.out).inB HF.out (fun _ hk => hk.2)).out
      have hek := HP.out.2.1 k (by rw [HN.out]; exact hlt)
      obtain ⟨b, off, rfl, hb, q0, q1, q2, q3, q4, q5, q6, q7, q8⟩ := ent_cells hL HN.out hlt
      rcases Nat.eq_zero_or_pos k with h0 | h0
      · subst h0
        obtain ⟨en, hen⟩ : ∃ q, q = es.getD 0 default := ⟨_, rfl⟩
        rw [← hen] at hek q0 q1 q2 q3 q4 q5 q6 q7 q8
        obtain ⟨ex, et, ec, es_, ek, ea, eb, eg, eh⟩ := en
        have hok := Lib.hid (entP_ok hek (by omega))
        simp only [Nat.zero_mul, Nat.add_zero] at q0 q1 q2 q3 q4 q5 q6 q7 q8 hok
        clear hek hen hL
        go_upto_region 6 with fail
        obtain ⟨v1, hv1⟩ : ∃ x : World, x = wr.alloc (.cells #[.int .i64 ex, .int .i64 et, .int .i64 ec, .int .i64 es_, .int .i64 ek, .int .i64 ea, .int .i64 eb, .int .i64 eg, .int .i64 eh] 76) := ⟨_, rfl⟩
        rw [← hv1]
        have b1 : Below wr.heap.size wr v1 := by rw [hv1]; exact (Below.refl _ _).alloc (Nat.le_refl _) _
        have K1 : Blk v1 wr.heap.size 76 #[.int .i64 ex, .int .i64 et, .int .i64 ec, .int .i64 es_, .int .i64 ek, .int .i64 ea, .int .i64 eb, .int .i64 eg, .int .i64 eh] := by rw [hv1]; exact Blk.new _ _ _
        clear hv1 q0 q1 q2 q3 q4 q5 q6 q7 q8
        obtain ⟨ge, hge⟩ : ∃ q, q = wr.heap.size := ⟨_, rfl⟩
        rw [← hge] at K1
        try rw [← hge]
        clear hb
        clear hge
        have r0 := K1.cell 0
        have r1 := K1.cell 1
        have r2 := K1.cell 2
        have r3 := K1.cell 3
        have r4 := K1.cell 4
        have r5 := K1.cell 5
        have r6 := K1.cell 6
        have r7 := K1.cell 7
        have r8 := K1.cell 8
        have lr := K1.lt
        have ce := entryOk_any (ex) et ec es_ ek ea eb eg eh
        rw [hok.out] at ce
        have hb := Below.refl v1.heap.size v1
        clear K1
        ((refine wp_region_ext (by kernel_rfl) (by kernel_rfl) ?_); (repeat (any_goals (first | go_big_quiet_step ((go_at_call 87; exact quiet_ext (ce _))) | (refine wpQuiet_step (fun K hK => ?_); go_simp; split <;> (refine hK _ ?_; clear hK K)) | quiet_step ((go_at_call 87; exact quiet_ext (ce _)))))); (all_goals (refine wpQuiet_nil ?_; rintro _ ⟨z, rfl⟩; have hb' := z.h; generalize z.w = w1 at hb' ⊢; clear z; (first | (have hb2 := bstep hb' hb hb.size; clear hb' hcb hfb hz1 hz2 hz3 hz4 hb; have hb := hb2; clear hb2) | (have hb := hb'; clear hb')); obtain ⟨hcb, hfb, hz1, hz2, hz3, hz4⟩ := bcell hb; (try simp only [World.size_alloc, World.size_setCell, World.size_drew, Nat.lt_add_one_iff, Nat.add_assoc, Nat.reduceAdd] at hz1 hz2 hz3 hz4))))
        all_goals
          have F1 := bthen HF.out (bthen b1 hb)
          go_wp2_with fail
          exact ⟨⟨1, by omega, rfl, Lib.hid F1⟩, by simp [intOf]; omega⟩
      · obtain ⟨j, rfl⟩ : ∃ j, k = j + 1 := ⟨k - 1, by omega⟩
        have hprev := HP.out.2.1 j (by rw [HN.out]; omega)
        have htt := HP.out.2.2 j (by rw [HN.out]; exact hlt)
        obtain ⟨b', off', hA, -, p0, p1, -, -, -, -, -, -, -⟩ := ent_cells hL HN.out (k := j) (by omega)
        injection hA with hA
        injection hA with hA1 hA2
        subst hA1 hA2
        have hpx := hprev.1
        have hex := hek.1
        obtain ⟨pt, hpt⟩ : ∃ q, q = (es.getD j default).t := ⟨_, rfl⟩
        rw [← hpt] at p1 htt
        rw [hpx] at p0
        obtain ⟨en, hen⟩ : ∃ q, q = es.getD (j + 1) default := ⟨_, rfl⟩
        rw [← hen] at hek q0 q1 q2 q3 q4 q5 q6 q7 q8 htt hex
        obtain ⟨ex, et, ec, es_, ek, ea, eb, eg, eh⟩ := en
        have hok := Lib.hid (entP_ok hek (by omega))
        simp only at q0 q1 q2 q3 q4 q5 q6 q7 q8 hok htt hex
        subst hex
        clear hek hen hL hprev hpx hpt
        have hw : IntKind.i64.wrap ((j : Int) + 1 + 1) = (j : Int) + 1 + 1 := wrap_small (by omega)
        have hw2 : ((j + 1 : Nat) : Int) + 1 = (j : Int) + 1 + 1 := by omega
        rw [hw2] at q0 hok
        clear hw2
        have ht2 : ¬ et < pt := by omega
        clear htt
        go_upto_region 6 with fail
        obtain ⟨v1, hv1⟩ : ∃ x : World, x = wr.alloc (.cells #[.int .i64 ((j : Int) + 1 + 1), .int .i64 et, .int .i64 ec, .int .i64 es_, .int .i64 ek, .int .i64 ea, .int .i64 eb, .int .i64 eg, .int .i64 eh] 76) := ⟨_, rfl⟩
        rw [← hv1]
        have b1 : Below wr.heap.size wr v1 := by rw [hv1]; exact (Below.refl _ _).alloc (Nat.le_refl _) _
        have K1 : Blk v1 wr.heap.size 76 #[.int .i64 ((j : Int) + 1 + 1), .int .i64 et, .int .i64 ec, .int .i64 es_, .int .i64 ek, .int .i64 ea, .int .i64 eb, .int .i64 eg, .int .i64 eh] := by rw [hv1]; exact Blk.new _ _ _
        clear hv1 q0 q1 q2 q3 q4 q5 q6 q7 q8
        obtain ⟨ge, hge⟩ : ∃ q, q = wr.heap.size := ⟨_, rfl⟩
        rw [← hge] at K1
        try rw [← hge]
        rw [← b1.cell (p := ⟨b, off + j * 9, none⟩) hb] at p0
        rw [← b1.cell (p := ⟨b, off + j * 9 + 1, none⟩) hb] at p1
        have hb1 : b < v1.heap.size := Nat.lt_of_lt_of_le hb b1.size
        clear hb
        clear hge
        have r0 := K1.cell 0
        have r1 := K1.cell 1
        have r2 := K1.cell 2
        have r3 := K1.cell 3
        have r4 := K1.cell 4
        have r5 := K1.cell 5
        have r6 := K1.cell 6
        have r7 := K1.cell 7
        have r8 := K1.cell 8
        have lr := K1.lt
        have ce := entryOk_any (((j : Int) + 1 + 1)) et ec es_ ek ea eb eg eh
        rw [hok.out] at ce
        have hb := Below.refl v1.heap.size v1
        clear K1
        ((refine wp_region_ext (by kernel_rfl) (by kernel_rfl) ?_); (repeat (any_goals (first | go_big_quiet_step ((go_at_call 87; exact quiet_ext (ce _))) | (refine wpQuiet_step (fun K hK => ?_); go_simp; split <;> (refine hK _ ?_; clear hK K)) | quiet_step ((go_at_call 87; exact quiet_ext (ce _)))))); (all_goals (refine wpQuiet_nil ?_; rintro _ ⟨z, rfl⟩; have hb' := z.h; generalize z.w = w1 at hb' ⊢; clear z; (first | (have hb2 := bstep hb' hb hb.size; clear hb' hcb hfb hz1 hz2 hz3 hz4 hb; have hb := hb2; clear hb2) | (have hb := hb'; clear hb')); obtain ⟨hcb, hfb, hz1, hz2, hz3, hz4⟩ := bcell hb; (try simp only [World.size_alloc, World.size_setCell, World.size_drew, Nat.lt_add_one_iff, Nat.add_assoc, Nat.reduceAdd] at hz1 hz2 hz3 hz4))))
        all_goals
          have F1 := bthen HF.out (bthen b1 hb)
          go_wp2_with fail
          exact ⟨⟨j + 2, by omega, by go_num, Lib.hid F1⟩, by simp [intOf]; omega⟩
    · have hkn : k = n := by omega
      subst hkn
      go_wp2
      go_ret
      exact ⟨rfl, HF.out⟩
set_option maxHeartbeats 1000000 in
theorem lastOf_zero (L : Option Addr) (n c : Nat) (w : World) (hn : n ≤ 1000) : Calls Tryz.prog 38 #[.agg #[.int .i64 0, .int .i64 0, .slice L n c]] w fun e w' => e = .returned (.int .i64 (n : Nat)) ∧ Below w.heap.size w w' := by
  have hw : IntKind.i64.wrap (n : Int) = (n : Int) := wrap_small (by omega)
  go_enter Tryz.func38, Tryz.ntmps38
  go_wp2
  go_ret
  exact ⟨by first | rfl | simp, by (repeat' (first | (with_reducible exact Below.refl _ _) | (with_reducible assumption) | (with_reducible refine Below.alloc ?_ ?_ _) | (with_reducible refine Below.drew ?_) | (with_reducible refine Below.setCell ?_ ?_ _) | (with_reducible refine bstep (by assumption) ?_ ?_) | (with_reducible exact Nat.le_refl _) | omega | (simp [*]; done) | (simp [*]; omega)))⟩
set_option maxHeartbeats 1600000 in
theorem timeOf_zero (L : Option Addr) (n c : Nat) (es : List En) (w : World) (hL : Sl w 9 L n (EN es)) (hn : es.length = n) (hn8 : n ≤ 1000) : Calls Tryz.prog 70 #[.agg #[.int .i64 0, .int .i64 0, .slice L n c]] w fun e w' => e = .returned (.int .i64 (timeL es)) ∧ Below w.heap.size w w' := by
  rcases Nat.eq_zero_or_pos n with h0 | h0
  · subst h0
    have e1 : timeL es = 0 := by unfold timeL; rw [if_pos hn]
    rw [e1]
    clear hL e1
    go_enter Tryz.func70, Tryz.ntmps70
    go_wp2
    go_ret
    exact ⟨rfl, by (repeat' (first | (with_reducible exact Below.refl _ _) | (with_reducible assumption) | (with_reducible refine Below.alloc ?_ ?_ _) | (with_reducible refine Below.drew ?_) | (with_reducible refine Below.setCell ?_ ?_ _) | (with_reducible refine bstep (by assumption) ?_ ?_) | (with_reducible exact Nat.le_refl _) | omega | (simp [*]; done) | (simp [*]; omega)))⟩
  · obtain ⟨m, rfl⟩ : ∃ m, n = m + 1 := ⟨n - 1, by omega⟩
    have e1 : timeL es = (es.getD m default).t := by unfold timeL; rw [if_neg (by omega), hn]; rfl
    rw [e1]
    obtain ⟨b, off, rfl, hb, -, q1, -, -, -, -, -, -, -⟩ := ent_cells hL hn (k := m) (by omega)
    generalize (es.getD m default).t = x at q1
    have hne : ¬ ((m : Int) + 1 = 0) := by omega
    have hne2 : (((m : Int) + 1) == 0) = false := by simpa using hne
    clear hL e1
    go_enter Tryz.func70, Tryz.ntmps70
    go_wp2
    go_ret
    exact ⟨rfl, by (repeat' (first | (with_reducible exact Below.refl _ _) | (with_reducible assumption) | (with_reducible refine Below.alloc ?_ ?_ _) | (with_reducible refine Below.drew ?_) | (with_reducible refine Below.setCell ?_ ?_ _) | (with_reducible refine bstep (by assumption) ?_ ?_) | (with_reducible exact Nat.le_refl _) | omega | (simp [*]; done) | (simp [*]; omega)))⟩
set_option maxRecDepth 100000 in
set_option maxHeartbeats 4000000 in
theorem bookOk_zero (L : Option Addr) (n c : Nat) (es : List En) (w : World) (hL : Sl w 9 L n (EN es)) (h : entsP es) (hn : es.length = n) : Calls Tryz.prog 57 #[.agg #[.int .i64 0, .int .i64 0, .slice L n c]] w fun e w' => e = .returned (.bool true) ∧ Below w.heap.size w w' := by
  have e1 : inB 0 0 2000 = true := by decide
  have e3 : inB 0 0 1000000 = true := by decide
  have hn8 : n ≤ 8 := by have := h.1; omega
  have HP := Lib.hid h
  have HN := Lib.hid hn
  clear h hn
  have HIL : Hid (On (Rg 0 w.heap.size) (fun x => Sl x 9 L n (EN es)) w) := Lib.hid (On.below_of (fun _ hb => (hL).below hb))
  clear hL
  go_enter Tryz.func57, Tryz.ntmps57
  go_wp2_with fail
  refine calls_named ?_
  rintro v0 hv0
  have f0 : Below w.heap.size w v0 := by rw [hv0]; (repeat' (first | (with_reducible exact Below.refl _ _) | (with_reducible assumption) | (with_reducible refine Below.alloc ?_ ?_ _) | (with_reducible refine Below.drew ?_) | (with_reducible refine Below.setCell ?_ ?_ _) | (with_reducible refine bstep (by assumption) ?_ ?_) | (with_reducible exact Nat.le_refl _) | omega | (simp [*]; done) | (simp [*]; omega)))
  have z0 : w.heap.size + 1 ≤ v0.heap.size := by rw [hv0]; simp [size_set]
  have HB_0 : Hid (Blk v0 w.heap.size 48 #[.int .i64 0, .int .i64 0, .slice L n c]) := by rw [hv0]; exact Lib.hid ((Blk.new_at _ _ _ _ (by simp [size_set])))
  clear hv0
  obtain ⟨gB, hgB⟩ : ∃ q, q = w.heap.size := ⟨_, rfl⟩
  rw [← hgB] at HB_0
  try rw [← hgB]
  have lgB : w.heap.size ≤ gB := by omega
  have mgB : gB < v0.heap.size := by omega
  have ngB : ∀ k, w.heap.size ≤ k → k ≠ gB → True := fun _ _ _ => trivial
  clear ngB
  clear hgB
  refine (between_any 0 0 2000 v0).mono ?_
  rintro e v' ⟨rfl, rfl⟩
  have hq20 : ¬ (20 : Int) < (n : Int) := by omega
  have lt_B := HB_0.out.lt
  obtain ⟨r_B0, r_B1, r_B2⟩ := bc3 HB_0.out
  go_wp2_with fail
  refine (timeOk_any 0 v0).mono ?_
  rintro e v' ⟨rfl, rfl⟩
  go_wp2_with fail
  refine (entriesOk_yes L n c es v0 ((HIL.out).inB f0 (fun _ hk => hk.2)).out HP.out HN.out).mono ?_
  rintro e v1 ⟨rfl, b1⟩
  have f1 := bthen f0 b1
  have z1 := b1.size
  have HB_1 := Lib.hid (HB_0.out.below b1)
  clear lt_B r_B0 r_B1 r_B2
  clear HB_0
  go_upto_region 5 with fail
  have lt_B := HB_1.out.lt
  obtain ⟨r_B0, r_B1, r_B2⟩ := bc3 HB_1.out
  rcases Nat.eq_zero_or_pos n with h0 | h0
  · subst h0
    go_quiet (fail)
    go_wp2
    go_ret
    exact ⟨rfl, below_drewN f1 _⟩
  · have hne : ¬ ((n : Int) = 0) := by omega
    have hne2 : ((n : Int) == 0) = false := by simpa using hne
    have hne3 : (0 : Int) < (n : Int) := by omega
    obtain ⟨b, off, rfl, hb, q0, q1, -, -, -, -, -, -, -⟩ := ent_cells ((HIL.out).inB f1 (fun _ hk => hk.2)).out HN.out (k := 0) h0
    obtain ⟨p1, -, -, -, -, -, -, -, p2, -⟩ := HP.out.2.1 0 (by rw [HN.out]; exact h0)
    simp only [Nat.zero_mul, Nat.add_zero] at q0 q1
    rw [p1] at q0
    generalize (es.getD 0 default).t = x at q1 p2
    simp only [Int.natCast_zero, Int.zero_add] at q0
    go_quiet (fail)
    go_wp2
    go_ret
    exact ⟨rfl, below_drewN f1 _⟩
set_option maxRecDepth 100000 in
set_option maxHeartbeats 8000000 in
theorem fits_yes (L : Option Addr) (n c : Nat) (es : List En) (et ec es_ ek ea eb eg eh : Int) (w : World) (hL : Sl w 9 L n (EN es)) (hn : es.length = n) (hn8 : n ≤ 8) (he : entryB ((n : Int) + 1) et ec es_ ek ea eb eg eh = true) (ht : timeL es ≤ et) :
    Calls Tryz.prog 71 #[.agg #[.int .i64 0, .int .i64 0, .slice L n c], .agg #[.int .i64 ((n : Int) + 1), .int .i64 et, .int .i64 ec, .int .i64 es_, .int .i64 ek, .int .i64 ea, .int .i64 eb, .int .i64 eg, .int .i64 eh]] w fun e w' => e = .returned (.bool true) ∧ Below w.heap.size w w' := by
  have ce := entryOk_any ((n : Int) + 1) et ec es_ ek ea eb eg eh
  rw [he] at ce
  have HN := Lib.hid hn
  have hw : IntKind.i64.wrap ((n : Int) + 1) = (n : Int) + 1 := wrap_small (by omega)
  have h20 : (n : Int) < 20 := by omega
  obtain ⟨tl, htl⟩ : ∃ q, q = timeL es := ⟨_, rfl⟩
  have HTL := Lib.hid htl
  rw [← htl] at ht
  clear hn he htl
  have HIL : Hid (On (Rg 0 w.heap.size) (fun x => Sl x 9 L n (EN es)) w) := Lib.hid (On.below_of (fun _ hb => (hL).below hb))
  clear hL
  go_enter Tryz.func71, Tryz.ntmps71
  go_upto_region 1 with fail
  obtain ⟨v0, hv0⟩ : ∃ x : World, x = ((w.alloc (.cells #[.int .i64 0, .int .i64 0, .slice L n c] 48)).alloc (.cells #[.int .i64 ((n : Int) + 1), .int .i64 et, .int .i64 ec, .int .i64 es_, .int .i64 ek, .int .i64 ea, .int .i64 eb, .int .i64 eg, .int .i64 eh] 76)) := ⟨_, rfl⟩
  rw [← hv0]
  have f0 : Below w.heap.size w v0 := by rw [hv0]; (repeat' (first | (with_reducible exact Below.refl _ _) | (with_reducible assumption) | (with_reducible refine Below.alloc ?_ ?_ _) | (with_reducible refine Below.drew ?_) | (with_reducible refine Below.setCell ?_ ?_ _) | (with_reducible refine bstep (by assumption) ?_ ?_) | (with_reducible exact Nat.le_refl _) | omega | (simp [*]; done) | (simp [*]; omega)))
  have z0 : w.heap.size + 2 ≤ v0.heap.size := by rw [hv0]; simp [size_set]
  have HB_0 : Hid (Blk v0 w.heap.size 48 #[.int .i64 0, .int .i64 0, .slice L n c]) := by rw [hv0]; exact Lib.hid (((Blk.new_at _ _ _ _ (by simp [size_set]))).alloc _)
  have HE_0 : Hid (Blk v0 (w.heap.size + 1) 76 #[.int .i64 ((n : Int) + 1), .int .i64 et, .int .i64 ec, .int .i64 es_, .int .i64 ek, .int .i64 ea, .int .i64 eb, .int .i64 eg, .int .i64 eh]) := by rw [hv0]; exact Lib.hid ((Blk.new_at _ _ _ _ (by simp [size_set])))
  clear hv0
  obtain ⟨gE, hgE⟩ : ∃ q, q = w.heap.size + 1 := ⟨_, rfl⟩
  rw [← hgE] at HE_0
  try rw [← hgE]
  have lgE : w.heap.size ≤ gE := by omega
  have mgE : gE < v0.heap.size := by omega
  have ngE : ∀ k, w.heap.size ≤ k → k ≠ gE → True := fun _ _ _ => trivial
  clear ngE
  obtain ⟨gB, hgB⟩ : ∃ q, q = w.heap.size := ⟨_, rfl⟩
  rw [← hgB] at HB_0
  try rw [← hgB]
  have lgB : w.heap.size ≤ gB := by omega
  have mgB : gB < v0.heap.size := by omega
  have ngB : ∀ k, w.heap.size ≤ k → k ≠ gB → True := fun _ _ _ => trivial
  clear ngB
  have nnBE : gB < gE := by omega
  clear hgB
  clear hgE
  have lt_B := HB_0.out.lt
  obtain ⟨r_B0, r_B1, r_B2⟩ := bc3 HB_0.out
  have lt_E := HE_0.out.lt
  obtain ⟨r_E0, r_E1, r_E2, r_E3, r_E4, r_E5, r_E6, r_E7, r_E8⟩ := bc9 HE_0.out
  have hL0 := ((HIL.out).inB f0 (fun _ hk => hk.2)).out
  have c3 := fun (v : World) (hv : Sl v 9 L n (EN es)) => timeOf_zero L n c es v hv HN.out (by omega)
  rw [← HTL.out] at c3
  have hb := Below.refl v0.heap.size v0
  have F0 := Lib.hid f0
  clear f0
  ((refine wp_region_ext (by kernel_rfl) (by kernel_rfl) ?_); (repeat (any_goals (first | go_big_quiet_step (first | (go_at_call 87; exact quiet_ext (ce _)) | (go_at_call 38; exact quiet_ext (lastOf_zero L n c _ (by omega))) | (go_at_call 70; exact quiet_ext (c3 _ (hL0.below (by first | assumption | exact Ext.h _))))) | (refine wpQuiet_step (fun K hK => ?_); go_simp; split <;> (refine hK _ ?_; clear hK K)) | quiet_step (first | (go_at_call 87; exact quiet_ext (ce _)) | (go_at_call 38; exact quiet_ext (lastOf_zero L n c _ (by omega))) | (go_at_call 70; exact quiet_ext (c3 _ (hL0.below (by first | assumption | exact Ext.h _)))))))); (all_goals (refine wpQuiet_nil ?_; rintro _ ⟨z, rfl⟩; have hb' := z.h; generalize z.w = w1 at hb' ⊢; clear z; (first | (have hb2 := bstep hb' hb hb.size; clear hb' hcb hfb hz1 hz2 hz3 hz4 hb; have hb := hb2; clear hb2) | (have hb := hb'; clear hb')); obtain ⟨hcb, hfb, hz1, hz2, hz3, hz4⟩ := bcell hb; (try simp only [World.size_alloc, World.size_setCell, World.size_drew, Nat.lt_add_one_iff, Nat.add_assoc, Nat.reduceAdd] at hz1 hz2 hz3 hz4))))
  all_goals
    go_wp2
    go_ret
    exact ⟨rfl, bthen F0.out hb⟩
theorem info_EntryL : (Tryz.prog.info? 76).map (fun i => (i.zero, i.size, i.bytes)) = some (some (.agg #[.int .i64 0, .int .i64 0, .int .i64 0, .int .i64 0, .int .i64 0, .int .i64 0, .int .i64 0, .int .i64 0, .int .i64 0]), 9, 72) := by kernel_rfl
set_option maxRecDepth 100000 in
set_option maxHeartbeats 4000000 in
theorem copyBook_zero (L : Option Addr) (n c : Nat) (zs : List Int) (w : World) (hL : Sl w 9 L n zs) (hn : n ≤ 1000) : Calls Tryz.prog 65 #[.agg #[.int .i64 0, .int .i64 0, .slice L n c]] w fun e w' => ∃ L' c', e = .returned (.agg #[.int .i64 0, .int .i64 0, .slice L' n c']) ∧ Row w' w.heap.size 76 9 L' n c' zs ∧ Below w.heap.size w w' := by
  obtain ⟨i0, hi0, hz0, hs0, hy0⟩ := info_parts info_EntryL
  have HIL : Hid (On (Rg 0 w.heap.size) (fun x => Sl x 9 L n zs) w) := Lib.hid (On.below_of (fun _ hb => (hL).below hb))
  clear hL
  go_enter Tryz.func65, Tryz.ntmps65
  go_upto_region 1 with fail
  obtain ⟨v0, hv0⟩ : ∃ x : World, x = ((w.alloc (.cells #[.int .i64 0, .int .i64 0, .slice L n c] 48)).alloc (.cells #[.int .i64 0, .int .i64 0, .slice none 0 0] 48)) := ⟨_, rfl⟩
  rw [← hv0]
  have f0 : Below w.heap.size w v0 := by rw [hv0]; (repeat' (first | (with_reducible exact Below.refl _ _) | (with_reducible assumption) | (with_reducible refine Below.alloc ?_ ?_ _) | (with_reducible refine Below.drew ?_) | (with_reducible refine Below.setCell ?_ ?_ _) | (with_reducible refine bstep (by assumption) ?_ ?_) | (with_reducible exact Nat.le_refl _) | omega | (simp [*]; done) | (simp [*]; omega)))
  have z0 : w.heap.size + 2 ≤ v0.heap.size := by rw [hv0]; simp [size_set]
  have HB_0 : Hid (Blk v0 w.heap.size 48 #[.int .i64 0, .int .i64 0, .slice L n c]) := by rw [hv0]; exact Lib.hid (((Blk.new_at _ _ _ _ (by simp [size_set]))).alloc _)
  have HR_0 : Hid (Blk v0 (w.heap.size + 1) 48 #[.int .i64 0, .int .i64 0, .slice none 0 0]) := by rw [hv0]; exact Lib.hid ((Blk.new_at _ _ _ _ (by simp [size_set])))
  clear hv0
  obtain ⟨gR, hgR⟩ : ∃ q, q = w.heap.size + 1 := ⟨_, rfl⟩
  rw [← hgR] at HR_0
  try rw [← hgR]
  have lgR : w.heap.size ≤ gR := by omega
  have mgR : gR < v0.heap.size := by omega
  have ngR : ∀ k, w.heap.size ≤ k → k ≠ gR → True := fun _ _ _ => trivial
  clear ngR
  obtain ⟨gB, hgB⟩ : ∃ q, q = w.heap.size := ⟨_, rfl⟩
  rw [← hgB] at HB_0
  try rw [← hgB]
  have lgB : w.heap.size ≤ gB := by omega
  have mgB : gB < v0.heap.size := by omega
  have ngB : ∀ k, w.heap.size ≤ k → k ≠ gB → True := fun _ _ _ => trivial
  clear ngB
  have nnBR : gB < gR := by omega
  clear hgB
  clear hgR
  have lt_B := HB_0.out.lt
  obtain ⟨r_B0, r_B1, r_B2⟩ := bc3 HB_0.out
  have lt_R := HR_0.out.lt
  obtain ⟨r_R0, r_R1, r_R2⟩ := bc3 HR_0.out
  obtain ⟨z_R0, z_R1, z_R2⟩ := bf3 HR_0.out
  have hS0 : ∀ b o, b < gR → v0.cell? ⟨b, o, none⟩ = v0.cell? ⟨b, o, none⟩ := fun _ _ _ => rfl
  have hL0 := Lib.hid ((HIL.out).inB f0 (fun _ hk => hk.2)).out
  have hg0 : gR ≤ v0.heap.size := by omega
  go_region_held_law (fun w' => ∀ b o, b < gR → w'.cell? ⟨b, o, none⟩ = v0.cell? ⟨b, o, none⟩) (repeat' (first | with_reducible assumption | with_reducible exact Nat.le_refl _ | with_reducible exact hS0 | with_reducible refine rd_drew ?_ | with_reducible refine hd_alloc ?_ ?_ _ | with_reducible refine rd_set ?_ ?_ _ _)) ((refine step_append_copy rfl _ _ 46 rfl 76 i0 _ 9 72 Tryz.underlying46 hi0 hz0 hs0 hy0 (by simp [Value.cells]) (by decide) _ rfl v0.heap.size L n c zs rfl hn (by decide) (by first | with_reducible exact Blk.new_at _ _ _ _ (by simp) | exact Blk.drew (Blk.new_at _ _ _ _ (by simp)) | exact Blk.new_at _ _ _ _ (by rfl)) (Nat.le_refl _) (by first | with_reducible exact (Sl.drew hL0.out).alloc _ | with_reducible exact (hL0.out.alloc _).drew | with_reducible exact hL0.out.alloc _) ?_; intro eA cA w5 R5 B5 lA oA; have E5 : Below v0.heap.size v0 w5 := (by first | with_reducible exact hd_ad B5 | with_reducible exact hd_da B5 | with_reducible exact hd_al B5); have hS1 : ∀ b o, b < gR → w5.cell? ⟨b, o, none⟩ = v0.cell? ⟨b, o, none⟩ := fun b o hb => E5.cell (p := ⟨b, o, none⟩) (Nat.lt_of_lt_of_le hb hg0); have KR5 := HR_0.out.below E5; have x0 := KR5.cell 0; have x1 := KR5.cell 1; have x2 := KR5.cell 2; have y0 := KR5.frozen 0; have y1 := KR5.frozen 1; have y2 := KR5.frozen 2; have yl := KR5.lt))
  all_goals
    rename_i hHx
    clear hHx hS0 hS1
    have F2 := bthen f0 E5
    go_wp21
    refine bodyPost_ret (v := .agg #[.int .i64 0, .int .i64 0, .slice (some ⟨eA, 0, none⟩) n cA]) (by simp [results, Tryz.results65, go_sem, *]) rfl ?_
    exact ⟨some ⟨eA, 0, none⟩, cA, rfl, Row.mono (((R5.far (p := ⟨gR, 0, none⟩) (fun a ha => by have := R5.ge a ha; show a.block ≠ gR; omega) _).far (p := ⟨gR, 1, none⟩) (fun a ha => by have := R5.ge a ha; show a.block ≠ gR; omega) _).far (p := ⟨gR, 2, none⟩) (fun a ha => by have := R5.ge a ha; show a.block ≠ gR; omega) _) (by omega), ((F2.setCell (p := ⟨gR, 0, none⟩) (show w.heap.size ≤ gR by omega) _).setCell (p := ⟨gR, 1, none⟩) (show w.heap.size ≤ gR by omega) _).setCell (p := ⟨gR, 2, none⟩) (show w.heap.size ≤ gR by omega) _⟩
set_option maxRecDepth 100000 in
set_option maxHeartbeats 2000000 in
theorem ackOf_yes (ex et ec es_ ek ea eb eg eh : Int) (w : World) (h : entryB ex et ec es_ ek ea eb eg eh = true) : Calls Tryz.prog 74 #[.agg #[.int .i64 ex, .int .i64 et, .int .i64 ec, .int .i64 es_, .int .i64 ek, .int .i64 ea, .int .i64 eb, .int .i64 eg, .int .i64 eh]] w fun e w' => e = .returned (.agg #[.int .i64 ec, .int .i64 es_, .int .i64 ex, .int .i64 es_]) ∧ Below w.heap.size w w' := by
  have ce := entryOk_any ex et ec es_ ek ea eb eg eh
  rw [h] at ce
  clear h
  go_enter Tryz.func74, Tryz.ntmps74
  go_wp2_with fail
  refine calls_named ?_
  rintro v0 hv0
  have f0 : Below w.heap.size w v0 := by rw [hv0]; (repeat' (first | (with_reducible exact Below.refl _ _) | (with_reducible assumption) | (with_reducible refine Below.alloc ?_ ?_ _) | (with_reducible refine Below.drew ?_) | (with_reducible refine Below.setCell ?_ ?_ _) | (with_reducible refine bstep (by assumption) ?_ ?_) | (with_reducible exact Nat.le_refl _) | omega | (simp [*]; done) | (simp [*]; omega)))
  have z0 : w.heap.size + 2 ≤ v0.heap.size := by rw [hv0]; simp [size_set]
  have HE_0 : Hid (Blk v0 w.heap.size 76 #[.int .i64 ex, .int .i64 et, .int .i64 ec, .int .i64 es_, .int .i64 ek, .int .i64 ea, .int .i64 eb, .int .i64 eg, .int .i64 eh]) := by rw [hv0]; exact Lib.hid (((Blk.new_at _ _ _ _ (by simp [size_set]))).alloc _)
  have HR_0 : Hid (Blk v0 (w.heap.size + 1) 71 #[.int .i64 0, .int .i64 0, .int .i64 0, .int .i64 0]) := by rw [hv0]; exact Lib.hid ((Blk.new_at _ _ _ _ (by simp [size_set])))
  clear hv0
  obtain ⟨gR, hgR⟩ : ∃ q, q = w.heap.size + 1 := ⟨_, rfl⟩
  rw [← hgR] at HR_0
  try rw [← hgR]
  have lgR : w.heap.size ≤ gR := by omega
  have mgR : gR < v0.heap.size := by omega
  have ngR : ∀ k, w.heap.size ≤ k → k ≠ gR → True := fun _ _ _ => trivial
  clear ngR
  obtain ⟨gE, hgE⟩ : ∃ q, q = w.heap.size := ⟨_, rfl⟩
  rw [← hgE] at HE_0
  try rw [← hgE]
  have lgE : w.heap.size ≤ gE := by omega
  have mgE : gE < v0.heap.size := by omega
  have ngE : ∀ k, w.heap.size ≤ k → k ≠ gE → True := fun _ _ _ => trivial
  clear ngE
  have nnER : gE < gR := by omega
  clear hgE
  clear hgR
  refine (ce v0).mono ?_
  rintro e v1 ⟨rfl, b1⟩
  have f1 := bthen f0 b1
  have z1 := b1.size
  have HE_1 := Lib.hid (HE_0.out.below b1)
  have HR_1 := Lib.hid (HR_0.out.below b1)
  clear HE_0 HR_0
  clear ce
  have lt_E := HE_1.out.lt
  obtain ⟨r_E0, r_E1, r_E2, r_E3, r_E4, r_E5, r_E6, r_E7, r_E8⟩ := bc9 HE_1.out
  have lt_R := HR_1.out.lt
  obtain ⟨r_R0, r_R1, r_R2, r_R3⟩ := bc4 HR_1.out
  obtain ⟨z_R0, z_R1, z_R2, z_R3⟩ := bf4 HR_1.out
  go_wp21
  refine bodyPost_ret (v := .agg #[.int .i64 ec, .int .i64 es_, .int .i64 ex, .int .i64 es_]) (by simp [results, Tryz.results74, go_sem, *]) rfl ?_
  exact ⟨rfl, ((((f1).setCell (p := ⟨gR, 0, none⟩) (show w.heap.size ≤ gR by omega) _).setCell (p := ⟨gR, 1, none⟩) (show w.heap.size ≤ gR by omega) _).setCell (p := ⟨gR, 2, none⟩) (show w.heap.size ≤ gR by omega) _).setCell (p := ⟨gR, 3, none⟩) (show w.heap.size ≤ gR by omega) _⟩
end Go.Proofs.YtbheflinchabgaaGreatDoor
