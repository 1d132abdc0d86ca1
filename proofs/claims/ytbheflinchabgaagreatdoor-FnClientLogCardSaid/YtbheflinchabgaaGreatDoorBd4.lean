/- Part 4 of what the claim rests on: LoB, LoK, LoL, InRnd, LoT, LoV, LoW, LoC, LoX, LogP. No condition of its own. -/
import Derived.Test.YtbheflinchabgaaGreatDoorBd3
import Derived.Deep.LoopGhost
import Derived.RangeFuncNested
import Derived.RangeFuncCalls
import Derived.RangeFuncLeaves
import Derived.OrdersIn
import Derived.Deep.RegionHeldLaw
import Derived.Shelf.Abstract
import Derived.WalkKit
import Derived.OwnWalkIn
import Derived.TacticsInMore
import Derived.LoopNIn
import Derived.LoopIn
namespace Go.Proofs.YtbheflinchabgaaGreatDoor
set_option linter.unusedSimpArgs false
set_option linter.unusedVariables false
attribute [local go_sem] n_lt2 n_lt3 n_lt4 n_le2 n_le3
open Go.RowKit
attribute [local go_sem] Ext.cell Ext.frozen
/-- One row more of the call's own. -/
theorem OwnK.snoc {w w6 : World} {lo E : Nat} {K A6 : Option Addr} {n c c6 : Nat} {rows : List (List Int)} {vs : List Value} {u : Value} {zs : List Int} {o : Obj} (h : OwnK w lo E K n c rows vs) (hu : Rw w u zs) (hul : ∀ A m d, u = .slice A m d → ∀ p, A = some p → lo ≤ p.block ∧ ∀ k, K = some k → p.block ≠ k.block)
    (R6 : RowV w6 lo E 1 A6 (n + 1) c6 (vs ++ [u])) (W6 : Wrote (w.alloc o) w6 K) (L6 : ∀ a', A6 = some a' → (∃ a, K = some a ∧ a.block = a'.block) ∨ a'.block = (w.alloc o).heap.size) : OwnK w6 lo E A6 (n + 1) c6 (rows ++ [zs]) (vs ++ [u]) := by
  have hal : Below w.heap.size w (w.alloc o) := (Below.refl _ _).alloc (Nat.le_refl _) _
  have hs := (h.s.below hal).wrote W6 h.a
  have hne : ∀ A n c, u = .slice A n c → ∀ a o, A = some a → K = some o → a.block ≠ o.block := fun A n c he a o ha ho => (hul A n c he a ha).2 o ho
  have hv := (hu.below hal).wrote W6 hne
  have hsz : (w.alloc o).heap.size = w.heap.size + 1 := by simp
  refine ⟨R6, hs.snoc hv, fun v hv A n' c' he a o' ha ho => ?_, fun v hv A n' c' he a ha => ?_⟩
  · rcases L6 o' ho with ⟨o5, ho5, hoe⟩ | hnew
    · rw [← hoe]
      rcases List.mem_append.1 hv with h1 | h1
      · exact h.a v h1 A n' c' he a o5 ha ho5
      · obtain rfl := List.mem_singleton.1 h1
        exact hne A n' c' he a o5 ha ho5
    · rcases List.mem_append.1 hv with h1 | h1
      · have := h.s.ltb v h1 A n' c' he a ha
        omega
      · obtain rfl := List.mem_singleton.1 h1
        have := hu.ltb A n' c' he a ha
        omega
  · rcases List.mem_append.1 hv with h1 | h1
    · exact h.l v h1 A n' c' he a ha
    · obtain rfl := List.mem_singleton.1 h1
      exact (hul A n' c' he a ha).1
/-- What a function hands back that gives rows of new memory. -/
def RetRR (w : World) (rows : List (List Int)) (e : Ending) (w' : World) : Prop := ∃ A c vs, e = .returned (.slice A rows.length c) ∧ On (Rg w.heap.size w'.heap.size) (fun x => OwnK x w.heap.size 59 A rows.length c rows vs) w' ∧ Below w.heap.size w w'
/-- The rows of the first disk alone. -/
def rightH (a : List Int) : List (List Int) := match unsumL a with
  | none => []
  | some x => [x]
theorem OwnK.empty {w : World} {g lo E : Nat} (h : Blk w g E #[]) (hlo : lo ≤ g) : OwnK w lo E (some ⟨g, 0, none⟩) 0 0 [] [] :=
  ⟨RowV.of_blk h hlo (by unfold maxLen; omega) (by simp), Rws.nil _, Apv.nil _, Lov.nil _⟩
theorem getD_row {n : Nat} {rows : List (List Int)} (h : rowsL rows) (hn : rows.length = n) {a : Nat} (ha : a < n) : rowL (rows.getD a []) := by
  have e : rows.getD a [] = rows[a] := by simp [List.getD, show a < rows.length by omega]
  rw [e]
  exact h _ (List.getElem_mem _)
theorem unsumL_row {zs ys : List Int} (h : unsumL zs = some ys) (hz : rowL zs) : rowL ys := by
  have hl := unsumL_len h
  unfold unsumL at h
  split at h
  · cases h
  · split at h
    · obtain rfl := Option.some.inj h
      exact ⟨by have := hz.1; omega, fun x hx => hz.2 x ((List.dropLast_sublist _).subset hx)⟩
    · cases h
theorem unsummed_no (A : Option Addr) (n cap : Nat) (zs : List Int) (w : World) (hS : Sl w 1 A n zs) (hc : n ≤ cap) (hr : rowL zs) (h : unsumL zs = none) :
    Calls Tryz.prog 129 #[.slice A n cap] w fun e w' => ∃ A' c', e = .returned (.tuple #[.slice A' 0 c', .bool false]) ∧ Below w.heap.size w w' := by
  refine (unsummed_any A n cap zs w hS hc hr).mono ?_
  rintro e w' ⟨A', c', rfl, R, b⟩
  rw [h] at R ⊢
  exact ⟨A', c', rfl, b⟩
theorem unsummed_yes (A : Option Addr) (n cap : Nat) (zs x : List Int) (w : World) (hS : Sl w 1 A n zs) (hc : n ≤ cap) (hr : rowL zs) (h : unsumL zs = some x) :
    Calls Tryz.prog 129 #[.slice A n cap] w fun e w' => ∃ A' c', e = .returned (.tuple #[.slice A' x.length c', .bool true]) ∧ Row w' w.heap.size 2 1 A' x.length c' x ∧ Below w.heap.size w w' := by
  refine (unsummed_any A n cap zs w hS hc hr).mono ?_
  rintro e w' ⟨A', c', rfl, R, b⟩
  rw [h] at R ⊢
  exact ⟨A', c', rfl, R, b⟩
theorem rightH_no {a : List Int} (h : unsumL a = none) : rightH a = [] := by unfold rightH; rw [h]
theorem rightH_yes {a x : List Int} (h : unsumL a = some x) : rightH a = [x] := by unfold rightH; rw [h]
theorem rightL_no {a b : List Int} (h : unsumL b = none) : rightL a b = rightH a := by
  unfold rightL rightH
  rw [h]
  cases unsumL a <;> rfl
theorem rightL_one {a b y : List Int} (h : unsumL a = none) (hb : unsumL b = some y) : rightL a b = [y] := by unfold rightL; rw [h, hb]
theorem rightL_same {a b x : List Int} (h : unsumL a = some x) (hb : unsumL b = some x) : rightL a b = [x] := by unfold rightL; rw [h, hb]; simp
theorem rightL_two {a b x y : List Int} (h : unsumL a = some x) (hb : unsumL b = some y) (hxy : x ≠ y) : rightL a b = [x, y] := by unfold rightL; rw [h, hb]; simp [hxy]
set_option maxRecDepth 100000 in
set_option maxHeartbeats 8000000 in
theorem rightAt_any (KA WA KB WB : Option Addr) (cA dA cB dB : Nat) (ra rb : List (List Int)) (at_ : Nat) (w : World) (hA : Dk w KA 22 WA 0 ra []) (hB : Dk w KB 22 WB 0 rb []) (hat : at_ < 22)
    (hab : ∀ x y, unsumL (ra.getD at_ []) = some x → unsumL (rb.getD at_ []) = some y → x = y ∨ x.length ≠ y.length) :
    Calls Tryz.prog 114 #[.agg #[.slice KA 22 cA, .slice WA 0 dA, .slice KB 22 cB, .slice WB 0 dB], .int .i64 (at_ : Nat)] w (RetRR w (rightL (ra.getD at_ []) (rb.getD at_ []))) := by
  have hra := Lib.hid (getD_row hA.r hA.k.len hat)
  have hrb := Lib.hid (getD_row hB.r hB.k.len hat)
  have HAB := Lib.hid hab
  clear hab
  have HIA : Hid (On (Rg 0 w.heap.size) (fun x => Dk x KA 22 WA 0 ra []) w) := Lib.hid (On.below_of (fun _ hb => (hA).below hb))
  clear hA
  have HIB : Hid (On (Rg 0 w.heap.size) (fun x => Dk x KB 22 WB 0 rb []) w) := Lib.hid (On.below_of (fun _ hb => (hB).below hb))
  clear hB
  obtain ⟨za, hza⟩ : ∃ z, z = ra.getD at_ [] := ⟨_, rfl⟩
  obtain ⟨zb, hzb⟩ : ∃ z, z = rb.getD at_ [] := ⟨_, rfl⟩
  rw [← hza] at hra HAB ⊢
  rw [← hzb] at hrb HAB ⊢
  have HZA := Lib.hid hza
  have HZB := Lib.hid hzb
  clear hza hzb
  go_enter Tryz.func114, Tryz.ntmps114
  go_wp2_with fail
  refine calls_named ?_
  rintro v0 hv0
  have f0 : Below w.heap.size w v0 := by rw [hv0]; (repeat' (first | (with_reducible exact Below.refl _ _) | (with_reducible assumption) | (with_reducible refine Below.alloc ?_ ?_ _) | (with_reducible refine Below.drew ?_) | (with_reducible refine Below.setCell ?_ ?_ _) | (with_reducible refine bstep (by assumption) ?_ ?_) | (with_reducible exact Nat.le_refl _) | omega | (simp [*]; done) | (simp [*]; omega)))
  have z0 : w.heap.size + 1 ≤ v0.heap.size := by rw [hv0]; simp [size_set]
  have HT_0 : Hid (Blk v0 w.heap.size 42 #[.slice KA 22 cA, .slice WA 0 dA, .slice KB 22 cB, .slice WB 0 dB]) := by rw [hv0]; exact Lib.hid ((Blk.new_at _ _ _ _ (by simp [size_set])))
  clear hv0
  obtain ⟨gT, hgT⟩ : ∃ q, q = w.heap.size := ⟨_, rfl⟩
  rw [← hgT] at HT_0
  try rw [← hgT]
  have lgT : w.heap.size ≤ gT := by omega
  have mgT : gT < v0.heap.size := by omega
  have ngT : ∀ k, w.heap.size ≤ k → k ≠ gT → True := fun _ _ _ => trivial
  clear ngT
  clear hgT
  refine (twoOk_yes KA WA KB WB 22 cA 0 dA cB 0 dB ra rb [] [] v0 ((HIA.out).inB f0 (fun _ hk => hk.2)).out ((HIB.out).inB f0 (fun _ hk => hk.2)).out).mono ?_
  rintro e v1 ⟨rfl, b1⟩
  have f1 := bthen f0 b1
  have z1 := b1.size
  have HT_1 := Lib.hid (HT_0.out.below b1)
  clear HT_0
  have lt_T := HT_1.out.lt
  obtain ⟨r_T0, r_T1, r_T2, r_T3⟩ := bc4 HT_1.out
  go_wp2_with fail
  refine (sectorOk_yes KA WA 22 cA 0 dA (at_ : Nat) v1 (by omega) (by decide)).mono ?_
  rintro e v2 ⟨rfl, b2⟩
  have f2 := bthen f1 b2
  have z2 := b2.size
  have HT_2 := Lib.hid (HT_1.out.below b2)
  clear lt_T r_T0 r_T1 r_T2 r_T3
  clear HT_1
  have lt_T := HT_2.out.lt
  obtain ⟨r_T0, r_T1, r_T2, r_T3⟩ := bc4 HT_2.out
  go_wp2_with fail
  refine calls_named ?_
  rintro v3 hv3
  have f3 : Below w.heap.size w v3 := by rw [hv3]; (repeat' (first | (with_reducible exact Below.refl _ _) | (with_reducible assumption) | (with_reducible refine Below.alloc ?_ ?_ _) | (with_reducible refine Below.drew ?_) | (with_reducible refine Below.setCell ?_ ?_ _) | (with_reducible refine bstep (by assumption) ?_ ?_) | (with_reducible exact Nat.le_refl _) | omega | (simp [*]; done) | (simp [*]; omega)))
  have z3 : v2.heap.size + 1 ≤ v3.heap.size := by rw [hv3]; simp [size_set]
  have HT_3 : Hid (Blk v3 gT 42 #[.slice KA 22 cA, .slice WA 0 dA, .slice KB 22 cB, .slice WB 0 dB]) := by rw [hv3]; exact Lib.hid ((HT_2.out).alloc _)
  have HE_3 : Hid (Blk v3 v2.heap.size 59 #[]) := by rw [hv3]; exact Lib.hid ((Blk.new_at _ _ _ _ (by simp [size_set])))
  clear lt_T r_T0 r_T1 r_T2 r_T3
  clear hv3 HT_2
  obtain ⟨gE, hgE⟩ : ∃ q, q = v2.heap.size := ⟨_, rfl⟩
  rw [← hgE] at HE_3
  try rw [← hgE]
  have lgE : v2.heap.size ≤ gE := by omega
  have mgE : gE < v3.heap.size := by omega
  have ngE : ∀ k, v2.heap.size ≤ k → k ≠ gE → True := fun _ _ _ => trivial
  clear ngE
  clear hgE
  refine (disks_any KA WA KB WB 22 0 22 0 cA dA cB dB v3).mono ?_
  rintro e v4 ⟨rfl, b4⟩
  have f4 := bthen f3 b4
  have z4 := b4.size
  have HT_4 := Lib.hid (HT_3.out.below b4)
  have HE_4 := Lib.hid (HE_3.out.below b4)
  clear HT_3 HE_3
  have HO_4 : Hid (On (Rg v2.heap.size v3.heap.size) (fun x => OwnK x v2.heap.size 59 (some ⟨gE, 0, none⟩) 0 0 [] []) v4) := Lib.hid ((On.sub (T := Rg v2.heap.size v3.heap.size) HE_4.out.on (fun k hk => by rw [hk]; exact ⟨by omega, by omega⟩)).map (fun v hv => OwnK.empty hv (by omega)))
  clear HT_4 HE_4
  go_wp2_with fail
  go_loopw [5, 25] (fun rv iv wr => (iv = .int .i64 0 ∧ rv = .slice (some ⟨gE, 0, none⟩) 0 0 ∧ v4 = wr) ∨
        (iv = .int .i64 1 ∧ ∃ A c vs, rv = .slice A (rightH za).length c ∧ Hid (OwnK wr v2.heap.size 59 A (rightH za).length c (rightH za) vs) ∧ Hid (Below w.heap.size w wr) ∧ v4.heap.size ≤ wr.heap.size) ∨
        (iv = .int .i64 2 ∧ ∃ A c vs, rv = .slice A (rightL za zb).length c ∧ Hid (OwnK wr v2.heap.size 59 A (rightL za zb).length c (rightL za zb) vs) ∧ Hid (Below w.heap.size w wr) ∧ v4.heap.size ≤ wr.heap.size)) (fun _ iv _ => 2 - (intOf iv).toNat)
  case atStart => exact .inl ⟨rfl, rfl, rfl⟩
  case round =>
    rcases hrel with ⟨rfl, rfl, rfl⟩ | ⟨rfl, A1, c1, vs1, rfl, HO, HF, hsz⟩ | ⟨rfl, A1, c1, vs1, rfl, HO, HF, hsz⟩
    · have HKB := Lib.hid (fun (k : Addr) (hk : some (⟨gE, 0, none⟩ : Addr) = some k) => (show k.block < v4.heap.size from by injection hk with hk; rw [← hk]; show gE < _; omega))
      have hidx := fun W : World => idx2_0 (.slice KA 22 cA) (.slice WA 0 dA) (.slice KB 22 cB) (.slice WB 0 dB) W
      go_wp2_with fail
      refine calls_named ?_
      rintro v5 hv5
      have f5 : Below w.heap.size w v5 := by rw [hv5]; (repeat' (first | (with_reducible exact Below.refl _ _) | (with_reducible assumption) | (with_reducible refine Below.alloc ?_ ?_ _) | (with_reducible refine Below.drew ?_) | (with_reducible refine Below.setCell ?_ ?_ _) | (with_reducible refine bstep (by assumption) ?_ ?_) | (with_reducible exact Nat.le_refl _) | omega | (simp [*]; done) | (simp [*]; omega)))
      have z5 : v4.heap.size + 1 ≤ v5.heap.size := by rw [hv5]; simp [size_set]
      have HO_5 : Hid (On (Rg v2.heap.size v3.heap.size) (fun x => OwnK x v2.heap.size 59 (some ⟨gE, 0, none⟩) 0 0 [] []) v5) := by rw [hv5]; exact Lib.hid ((HO_4.out).alloc _)
      have HD_5 : Hid (Blk v5 v4.heap.size 40 #[.slice KA 22 cA, .slice WA 0 dA]) := by rw [hv5]; exact Lib.hid ((Blk.new_at _ _ _ _ (by simp [size_set])))
      clear hv5 HO_4
      obtain ⟨gD, hgD⟩ : ∃ q, q = v4.heap.size := ⟨_, rfl⟩
      rw [← hgD] at HD_5
      try rw [← hgD]
      have lgD : v4.heap.size ≤ gD := by omega
      have mgD : gD < v5.heap.size := by omega
      have ngD : ∀ k, v4.heap.size ≤ k → k ≠ gD → True := fun _ _ _ => trivial
      clear ngD
      clear hgD
      clear hidx
      refine (readAt_kept KA WA 22 cA dA at_ ra v5 ((HIA.out).inB f5 (fun _ hk => hk.2)).out hat).mono ?_
      rintro e v6 ⟨Ax, cx, rfl, RX, b6⟩
      rw [← HZA.out] at RX ⊢
      have f6 := bthen f5 b6
      have z6 := b6.size
      have HO_6 := Lib.hid (HO_5.out.below b6)
      have HD_6 := Lib.hid (HD_5.out.below b6)
      clear HO_5 HD_5
      have HX := Lib.hid RX
      clear RX
      clear HD_6
      rcases hU : unsumL za with _ | x
      · go_wp2_with fail
        refine (unsummed_no Ax za.length cx za v6 HX.out.sl HX.out.cap_le.1 hra.out hU).mono ?_
        rintro e v7 ⟨Au, cu, rfl, b7⟩
        have f7 := bthen f6 b7
        have z7 := b7.size
        have HO_7 := Lib.hid (HO_6.out.below b7)
        clear HO_6
        go_wp2_with fail
        exact ⟨.inr (.inl ⟨rfl, some ⟨gE, 0, none⟩, 0, [], by rw [rightH_no hU]; rfl, by rw [rightH_no hU]; exact Lib.hid HO_7.out.out, Lib.hid f7, by omega⟩), by simp [intOf]⟩
      · go_wp2_with fail
        refine (unsummed_yes Ax za.length cx za x v6 HX.out.sl HX.out.cap_le.1 hra.out hU).mono ?_
        rintro e v7 ⟨Au, cu, rfl, RU, b7⟩
        have f7 := bthen f6 b7
        have z7 := b7.size
        have HO_7 := Lib.hid (HO_6.out.below b7)
        clear HO_6
        have HOx := HO_7.out.out
        have HUx := Lib.hid hU
        clear hU
        generalize hxl : x.length = xl at *
        have HXL := Lib.hid hxl
        clear hxl
        go_wp2_with (at_builtin; refine wpList_append_rowV rfl _ _ 37 rfl 59 (.slice none 0 0) 1 24 Tryz.underlying37 info_SlInt (by first | kernel_rfl | simp [Value.cells]) (by decide) v2.heap.size (some ⟨gE, 0, none⟩) 0 0 [] rfl (HOx.r.alloc _) ⟨v7.heap.size, 0, none⟩ 1 1 [.slice Au xl cu] rfl rfl (cell_one_at _ _ _) (by intro u hu; obtain rfl := List.mem_singleton.1 hu; rfl) (by unfold maxLen; omega) (by omega) (by simp; omega) ?_; intro A9 c9 w9 R9 B9 W9 L9)
        have HN := OwnK.snoc HOx (Rw.of_row RU) (fun A m d he p hp => by injection he with h1; rw [← h1] at hp; have h3 := RU.ge p hp; exact ⟨by omega, fun k hk => by have h4 := HKB.out k hk; omega⟩) R9 W9 L9
        have F9 : Below w.heap.size w w9 := (f7.alloc (by omega) _).trans (B9.mono (by omega))
        exact ⟨.inr (.inl ⟨rfl, A9, c9, _, by rw [rightH_yes HUx.out]; rfl, by rw [rightH_yes HUx.out]; exact Lib.hid HN, Lib.hid F9, by have := B9.size; simp at this; omega⟩), by simp [intOf]⟩
    · clear HO_4
      have f5 := HF.out
      have z5 : v4.heap.size ≤ wr.heap.size := hsz
      obtain ⟨v5, hv5⟩ : ∃ x, x = wr := ⟨_, rfl⟩
      rw [← hv5] at HO f5 z5 ⊢
      clear hv5 HF hsz
      have HKB := Lib.hid HO.out.r.lt
      have hidx := fun W : World => idx2_1 (.slice KA 22 cA) (.slice WA 0 dA) (.slice KB 22 cB) (.slice WB 0 dB) W
      have HQ := HO.out.on
      obtain ⟨hi5, hhi5⟩ : ∃ q, q = v5.heap.size := ⟨_, rfl⟩
      rw [← hhi5] at HQ
      have hhi : hi5 ≤ v5.heap.size := by omega
      clear hhi5
      have HO_5 : Hid (On (Rg v2.heap.size hi5) (fun x => OwnK x v2.heap.size 59 A1 (rightH za).length c1 (rightH za) vs1) v5) := Lib.hid HQ
      clear HO HQ
      go_wp2_with fail
      refine calls_named ?_
      rintro v6 hv6
      have f6 : Below w.heap.size w v6 := by rw [hv6]; (repeat' (first | (with_reducible exact Below.refl _ _) | (with_reducible assumption) | (with_reducible refine Below.alloc ?_ ?_ _) | (with_reducible refine Below.drew ?_) | (with_reducible refine Below.setCell ?_ ?_ _) | (with_reducible refine bstep (by assumption) ?_ ?_) | (with_reducible exact Nat.le_refl _) | omega | (simp [*]; done) | (simp [*]; omega)))
      have z6 : v5.heap.size + 1 ≤ v6.heap.size := by rw [hv6]; simp [size_set]
      have HO_6 : Hid (On (Rg v2.heap.size hi5) (fun x => OwnK x v2.heap.size 59 A1 (rightH za).length c1 (rightH za) vs1) v6) := by rw [hv6]; exact Lib.hid ((HO_5.out).alloc _)
      have HD_6 : Hid (Blk v6 v5.heap.size 40 #[.slice KB 22 cB, .slice WB 0 dB]) := by rw [hv6]; exact Lib.hid ((Blk.new_at _ _ _ _ (by simp [size_set])))
      clear hv6 HO_5
      obtain ⟨gD, hgD⟩ : ∃ q, q = v5.heap.size := ⟨_, rfl⟩
      rw [← hgD] at HD_6
      try rw [← hgD]
      have lgD : v5.heap.size ≤ gD := by omega
      have mgD : gD < v6.heap.size := by omega
      have ngD : ∀ k, v5.heap.size ≤ k → k ≠ gD → True := fun _ _ _ => trivial
      clear ngD
      clear hgD
      clear hidx
      refine (readAt_kept KB WB 22 cB dB at_ rb v6 ((HIB.out).inB f6 (fun _ hk => hk.2)).out hat).mono ?_
      rintro e v7 ⟨Ax, cx, rfl, RX, b7⟩
      rw [← HZB.out] at RX ⊢
      have f7 := bthen f6 b7
      have z7 := b7.size
      have HO_7 := Lib.hid (HO_6.out.below b7)
      have HD_7 := Lib.hid (HD_6.out.below b7)
      clear HO_6 HD_6
      have HX := Lib.hid RX
      clear RX
      clear HD_7
      rcases hU : unsumL zb with _ | y
      · obtain ⟨nh, hnh⟩ : ∃ q, q = (rightH za).length := ⟨_, rfl⟩
        rw [← hnh] at HO_7 ⊢
        have HNH := Lib.hid hnh
        clear hnh
        go_wp2_with fail
        refine (unsummed_no Ax zb.length cx zb v7 HX.out.sl HX.out.cap_le.1 hrb.out hU).mono ?_
        rintro e v8 ⟨Au, cu, rfl, b8⟩
        have HO8 := Lib.hid (HO_7.out.below b8)
        clear HO_7
        have f8 := bthen f7 b8
        have z8 := b8.size
        go_wp2_with fail
        exact ⟨.inr (.inr ⟨rfl, A1, c1, vs1, by rw [rightL_no hU, HNH.out], by rw [rightL_no hU, ← HNH.out]; exact Lib.hid HO8.out.out, Lib.hid f8, by omega⟩), by simp [intOf]⟩
      · rcases hV : unsumL za with _ | x
        · rw [rightH_no hV] at HO_7 ⊢
          have HV := Lib.hid hV
          clear hV
          simp only [List.length_nil] at HO_7 ⊢
          go_wp2_with fail
          refine (unsummed_yes Ax zb.length cx zb y v7 HX.out.sl HX.out.cap_le.1 hrb.out hU).mono ?_
          rintro e v8 ⟨Au, cu, rfl, RU, b8⟩
          have HO8 := Lib.hid (HO_7.out.below b8)
          clear HO_7
          have f8 := bthen f7 b8
          have z8 := b8.size
          have HOx := HO8.out.out
          have HUx := Lib.hid hU
          clear hU
          generalize hxl : y.length = xl at *
          have HXL := Lib.hid hxl
          clear hxl
          go_wp2_with (at_builtin; refine wpList_append_rowV rfl _ _ 37 rfl 59 (.slice none 0 0) 1 24 Tryz.underlying37 info_SlInt (by first | kernel_rfl | simp [Value.cells]) (by decide) v2.heap.size A1 0 c1 vs1 rfl (HOx.r.alloc _) ⟨v8.heap.size, 0, none⟩ 1 1 [.slice Au xl cu] rfl rfl (cell_one_at _ _ _) (by intro u hu; obtain rfl := List.mem_singleton.1 hu; rfl) (by unfold maxLen; omega) (by omega) (by simp; omega) ?_; intro A9 c9 w9 R9 B9 W9 L9)
          have HN := OwnK.snoc HOx (Rw.of_row RU) (fun A m d he p hp => by injection he with h1; rw [← h1] at hp; have h3 := RU.ge p hp; exact ⟨by omega, fun k hk => by have h4 := HKB.out k hk; omega⟩) R9 W9 L9
          have F9 : Below w.heap.size w w9 := (f8.alloc (by omega) _).trans (B9.mono (by omega))
          exact ⟨.inr (.inr ⟨rfl, A9, c9, _, by rw [rightL_one HV.out HUx.out]; rfl, by rw [rightL_one HV.out HUx.out]; exact Lib.hid HN, Lib.hid F9, by have := B9.size; simp at this; omega⟩), by simp [intOf]⟩
        · rw [rightH_yes hV] at HO_7 ⊢
          have HV := Lib.hid hV
          simp only [List.length_cons, List.length_nil, Nat.zero_add] at HO_7 ⊢
          have hxy := HAB.out x y hV hU
          clear hV
          go_wp2_with fail
          refine (unsummed_yes Ax zb.length cx zb y v7 HX.out.sl HX.out.cap_le.1 hrb.out hU).mono ?_
          rintro e v8 ⟨Au, cu, rfl, RU, b8⟩
          have HO8 := Lib.hid (HO_7.out.below b8)
          clear HO_7
          have f8 := bthen f7 b8
          have z8 := b8.size
          have HOx := HO8.out.out
          have HUx := Lib.hid hU
          obtain ⟨br, cur, rfl, hr1, hr2, -, -, -, -, -⟩ := HOx.block (by decide)
          obtain ⟨b', o', e1, _, hc9⟩ := HOx.r.sl.at_ (by decide)
          injection e1 with e1
          injection e1 with e1 e2
          subst e1 e2
          have hr0 := hc9 0 (by decide)
          obtain ⟨ur, hur, hRr⟩ := HOx.s.2 0 (by simp)
          rw [hur] at hr0
          obtain ⟨Ar, cr, rfl, hSr, -, -, -, -⟩ := hRr
          simp only [Nat.add_zero, List.getD_cons_zero] at hr0 hSr
          have hx48 := Lib.hid (unsumL_row HV.out hra.out).1
          have HSr := Lib.hid hSr
          clear hc9 hSr hU
          by_cases hq : x = y
          · subst hq
            have cs := sameRow_yes Ar Au x.length cr cu x v8 HSr.out RU.sl hx48.out
            obtain ⟨xl, hxl⟩ : ∃ q, q = x.length := ⟨_, rfl⟩
            rw [← hxl] at cs hr0 ⊢
            have HXL := Lib.hid hxl
            clear hxl
            clear hxy RU
            go_wp2_with fail
            refine cs.mono ?_
            rintro e v9 ⟨rfl, b9⟩
            clear cs hr0
            have HO9 := Lib.hid (HOx.below b9)
            have f9 := bthen f8 b9
            have z9 := b9.size
            go_wp2_with fail
            exact ⟨.inr (.inr ⟨rfl, _, c1, vs1, by rw [rightL_same HV.out HUx.out]; rfl, by rw [rightL_same HV.out HUx.out]; exact HO9, Lib.hid f9, by omega⟩), by simp [intOf]⟩
          · have hln : x.length ≠ y.length := hxy.resolve_left hq
            have HQ := Lib.hid hq
            have cs := sameRow_len Ar Au x.length y.length cr cu v8 hln
            obtain ⟨xl, hxl⟩ : ∃ q, q = x.length := ⟨_, rfl⟩
            obtain ⟨yl, hyl⟩ : ∃ q, q = y.length := ⟨_, rfl⟩
            rw [← hxl] at cs hr0
            rw [← hyl] at cs RU ⊢
            clear hxy hln hxl hyl hq
            go_wp2_with fail
            refine cs.mono ?_
            rintro e v9 ⟨rfl, b9⟩
            clear cs hr0
            replace HOx := HOx.below b9
            replace RU := RU.below b9
            have f9 := bthen f8 b9
            have z9 := b9.size
            go_wp2_with (at_builtin; refine wpList_append_rowV rfl _ _ 37 rfl 59 (.slice none 0 0) 1 24 Tryz.underlying37 info_SlInt (by first | kernel_rfl | simp [Value.cells]) (by decide) v2.heap.size (some ⟨br, 0, none⟩) 1 c1 vs1 rfl (HOx.r.alloc _) ⟨v9.heap.size, 0, none⟩ 1 1 [.slice Au yl cu] rfl rfl (cell_one_at _ _ _) (by intro u hu; obtain rfl := List.mem_singleton.1 hu; rfl) (by unfold maxLen; omega) (by omega) (by simp; omega) ?_; intro A9 c9 w9 R9 B9 W9 L9)
            have HN := OwnK.snoc HOx (Rw.of_row RU) (fun A m d he p hp => by injection he with h1; rw [← h1] at hp; have h3 := RU.ge p hp; exact ⟨by omega, fun k hk => by have h4 := HKB.out k hk; omega⟩) R9 W9 L9
            have F9 : Below w.heap.size w w9 := (f9.alloc (by omega) _).trans (B9.mono (by omega))
            exact ⟨.inr (.inr ⟨rfl, A9, c9, _, by rw [rightL_two HV.out HUx.out HQ.out]; rfl, by rw [rightL_two HV.out HUx.out HQ.out]; exact Lib.hid HN, Lib.hid F9, by have := B9.size; simp at this; omega⟩), by simp [intOf]⟩
    · clear HO_4
      have f5 := HF.out
      have z5 : v4.heap.size ≤ wr.heap.size := hsz
      obtain ⟨v5, hv5⟩ : ∃ x, x = wr := ⟨_, rfl⟩
      rw [← hv5] at HO f5 z5 ⊢
      clear hv5 HF hsz
      go_wp2_with fail
      go_ret
      exact ⟨A1, c1, vs1, rfl, ((HO.out.mono (show w.heap.size ≤ v2.heap.size by omega)).on), f5⟩
end Go.Proofs.YtbheflinchabgaaGreatDoor
namespace Go.Proofs.YtbheflinchabgaaGreatDoor
set_option linter.unusedSimpArgs false
set_option linter.unusedVariables false
attribute [local go_sem] n_lt2 n_lt3 n_lt4 n_le2 n_le3
open Go.RowKit
attribute [local go_sem] Ext.cell Ext.frozen
def enV (e : En) : Value := .agg #[.int .i64 e.x, .int .i64 e.t, .int .i64 e.c, .int .i64 e.s, .int .i64 e.k, .int .i64 e.a, .int .i64 e.b, .int .i64 e.g, .int .i64 e.h]
/-- What the reader hands back of a row. -/
def RdRet (hit : Bool) (e : En) (w : World) (r : Ending) (w' : World) : Prop := r = .returned (.tuple #[if hit then enV e else .agg #[.int .i64 0, .int .i64 0, .int .i64 0, .int .i64 0, .int .i64 0, .int .i64 0, .int .i64 0, .int .i64 0, .int .i64 0], .bool hit]) ∧ Below w.heap.size w w'
set_option maxRecDepth 100000 in
set_option maxHeartbeats 2000000 in
theorem bookIn1_no (A : Option Addr) (n cap gi gb gs : Nat) (e : En) (w : World) (hn : n ≠ 11) (hcm : n ≤ maxLen) :
    Calls Tryz.prog 117 #[.slice A n cap, .pointer (some ⟨gi, 0, none⟩), .pointer (some ⟨gb, 0, none⟩), .pointer (some ⟨gs, 0, none⟩)] w (RdRet false e w) := by
  go_enter Tryz.func117, Tryz.ntmps117
  go_wp2_with fail
  refine calls_named ?_
  rintro v0 hv0
  have f0 : Below w.heap.size w v0 := by rw [hv0]; (repeat' (first | (with_reducible exact Below.refl _ _) | (with_reducible assumption) | (with_reducible refine Below.alloc ?_ ?_ _) | (with_reducible refine Below.drew ?_) | (with_reducible refine Below.setCell ?_ ?_ _) | (with_reducible refine bstep (by assumption) ?_ ?_) | (with_reducible exact Nat.le_refl _) | omega | (simp [*]; done) | (simp [*]; omega)))
  have z0 : w.heap.size + 1 ≤ v0.heap.size := by rw [hv0]; simp [size_set]
  have HR_0 : Hid (Blk v0 w.heap.size 76 #[.int .i64 0, .int .i64 0, .int .i64 0, .int .i64 0, .int .i64 0, .int .i64 0, .int .i64 0, .int .i64 0, .int .i64 0]) := by rw [hv0]; exact Lib.hid ((Blk.new_at _ _ _ _ (by simp [size_set])))
  clear hv0
  obtain ⟨gR, hgR⟩ : ∃ q, q = w.heap.size := ⟨_, rfl⟩
  rw [← hgR] at HR_0
  try rw [← hgR]
  have lgR : w.heap.size ≤ gR := by omega
  have mgR : gR < v0.heap.size := by omega
  have ngR : ∀ k, w.heap.size ≤ k → k ≠ gR → True := fun _ _ _ => trivial
  clear ngR
  clear hgR
  refine (rowSlot_no A n cap v0 hn hcm).mono ?_
  rintro e v1 ⟨rfl, b1⟩
  have f1 := bthen f0 b1
  have z1 := b1.size
  have HR_1 := Lib.hid (HR_0.out.below b1)
  clear HR_0
  have lt_R := HR_1.out.lt
  obtain ⟨r_R0, r_R1, r_R2, r_R3, r_R4, r_R5, r_R6, r_R7, r_R8⟩ := bc9 HR_1.out
  obtain ⟨z_R0, z_R1, z_R2, z_R3, z_R4, z_R5, z_R6, z_R7, z_R8⟩ := bf9 HR_1.out
  go_wp21
  refine bodyPost_ret (v := .tuple #[.agg #[.int .i64 0, .int .i64 0, .int .i64 0, .int .i64 0, .int .i64 0, .int .i64 0, .int .i64 0, .int .i64 0, .int .i64 0], .bool false]) (by simp [results, Tryz.results117, go_sem, *]) rfl ?_
  exact ⟨rfl, by (repeat' (first | (with_reducible exact Below.refl _ _) | (with_reducible assumption) | (with_reducible refine Below.alloc ?_ ?_ _) | (with_reducible refine Below.drew ?_) | (with_reducible refine Below.setCell ?_ ?_ _) | (with_reducible refine bstep (by assumption) ?_ ?_) | (with_reducible exact Nat.le_refl _) | omega | (simp [*]; done) | (simp [*]; omega)))⟩
set_option maxRecDepth 100000 in
set_option maxHeartbeats 4000000 in
theorem bookIn1_yes (b off cap gi gb gs n c d : Nat) (L S : Option Addr) (es : List En) (et ec es_ ek ea eb eg eh : Int) (w : World) (hS : Sl w 1 (some ⟨b, off, none⟩) 11 [(n : Int) + 1, et, ec, es_, ek, ea, eb, eg, eh, (n : Int) + 1, (n : Int) + 1]) (hcap : 11 ≤ cap) (hcm : cap ≤ maxLen)
    (hi : w.cell? ⟨gi, 0, none⟩ = some (.int .i64 ((n : Int) + 1))) (hb : Blk w gb 48 #[.int .i64 0, .int .i64 0, .slice L n c]) (hs : w.cell? ⟨gs, 0, none⟩ = some (.slice S (markN es) d)) (hgi : gi < w.heap.size) (hgs : gs < w.heap.size)
    (hL : Sl w 9 L n (EN es)) (hM : Sl w 3 S (markN es) (markL es)) (hn : es.length = n) (he : entP n ⟨(n : Int) + 1, et, ec, es_, ek, ea, eb, eg, eh⟩) (hp : entsP (es ++ [⟨(n : Int) + 1, et, ec, es_, ek, ea, eb, eg, eh⟩])) (ht : timeL es ≤ et) :
    Calls Tryz.prog 117 #[.slice (some ⟨b, off, none⟩) 11 cap, .pointer (some ⟨gi, 0, none⟩), .pointer (some ⟨gb, 0, none⟩), .pointer (some ⟨gs, 0, none⟩)] w (RdRet true ⟨(n : Int) + 1, et, ec, es_, ek, ea, eb, eg, eh⟩ w) := by
  have hn7 : n ≤ 7 := by have := hp.1; simp at this; omega
  have HP := Lib.hid hp
  have HN := Lib.hid hn
  have HT := Lib.hid ht
  have HOK := Lib.hid (entP_ok he (by omega))
  have hgb := hb.lt
  clear hp hn ht he
  have HIX : Hid (On (Rg 0 w.heap.size) (fun x => Sl x 1 (some ⟨b, off, none⟩) 11 [(n : Int) + 1, et, ec, es_, ek, ea, eb, eg, eh, (n : Int) + 1, (n : Int) + 1]) w) := Lib.hid (On.below_of (fun _ hb => (hS).below hb))
  clear hS
  have HIL : Hid (On (Rg 0 w.heap.size) (fun x => Sl x 9 L n (EN es)) w) := Lib.hid (On.below_of (fun _ hb => (hL).below hb))
  clear hL
  have HIM : Hid (On (Rg 0 w.heap.size) (fun x => Sl x 3 S (markN es) (markL es)) w) := Lib.hid (On.below_of (fun _ hb => (hM).below hb))
  clear hM
  obtain ⟨m, hm⟩ : ∃ q, q = markN es := ⟨_, rfl⟩
  have HM := Lib.hid hm
  rw [← hm] at hs
  clear hm
  have HB := Lib.hid hb
  clear hb
  go_enter Tryz.func117, Tryz.ntmps117
  go_wp2_with fail
  refine calls_named ?_
  rintro v0 hv0
  have f0 : Below w.heap.size w v0 := by rw [hv0]; (repeat' (first | (with_reducible exact Below.refl _ _) | (with_reducible assumption) | (with_reducible refine Below.alloc ?_ ?_ _) | (with_reducible refine Below.drew ?_) | (with_reducible refine Below.setCell ?_ ?_ _) | (with_reducible refine bstep (by assumption) ?_ ?_) | (with_reducible exact Nat.le_refl _) | omega | (simp [*]; done) | (simp [*]; omega)))
  have z0 : w.heap.size + 1 ≤ v0.heap.size := by rw [hv0]; simp [size_set]
  have HR_0 : Hid (Blk v0 w.heap.size 76 #[.int .i64 0, .int .i64 0, .int .i64 0, .int .i64 0, .int .i64 0, .int .i64 0, .int .i64 0, .int .i64 0, .int .i64 0]) := by rw [hv0]; exact Lib.hid ((Blk.new_at _ _ _ _ (by simp [size_set])))
  clear hv0
  obtain ⟨gR, hgR⟩ : ∃ q, q = w.heap.size := ⟨_, rfl⟩
  rw [← hgR] at HR_0
  try rw [← hgR]
  have lgR : w.heap.size ≤ gR := by omega
  have mgR : gR < v0.heap.size := by omega
  have ngR : ∀ k, w.heap.size ≤ k → k ≠ gR → True := fun _ _ _ => trivial
  clear ngR
  clear hgR
  refine (rowSlot_yes b off cap ((n : Int) + 1) et ec es_ ek ea eb eg eh v0 ((HIX.out).inB f0 (fun _ hk => hk.2)).out hcap hcm HOK.out).mono ?_
  rintro e v1 ⟨rfl, b1⟩
  have f1 := bthen f0 b1
  have z1 := b1.size
  have HR_1 := Lib.hid (HR_0.out.below b1)
  clear HR_0
  go_upto_region 2 with fail
  obtain ⟨v2, hv2⟩ : ∃ x : World, x = (v1.alloc (.cells #[.int .i64 ((n : Int) + 1), .int .i64 et, .int .i64 ec, .int .i64 es_, .int .i64 ek, .int .i64 ea, .int .i64 eb, .int .i64 eg, .int .i64 eh] 76)) := ⟨_, rfl⟩
  rw [← hv2]
  have f2 : Below w.heap.size w v2 := by rw [hv2]; (repeat' (first | (with_reducible exact Below.refl _ _) | (with_reducible assumption) | (with_reducible refine Below.alloc ?_ ?_ _) | (with_reducible refine Below.drew ?_) | (with_reducible refine Below.setCell ?_ ?_ _) | (with_reducible refine bstep (by assumption) ?_ ?_) | (with_reducible exact Nat.le_refl _) | omega | (simp [*]; done) | (simp [*]; omega)))
  have z2 : v1.heap.size + 1 ≤ v2.heap.size := by rw [hv2]; simp [size_set]
  have HR_2 : Hid (Blk v2 gR 76 #[.int .i64 0, .int .i64 0, .int .i64 0, .int .i64 0, .int .i64 0, .int .i64 0, .int .i64 0, .int .i64 0, .int .i64 0]) := by rw [hv2]; exact Lib.hid ((HR_1.out).alloc _)
  have HE_2 : Hid (Blk v2 v1.heap.size 76 #[.int .i64 ((n : Int) + 1), .int .i64 et, .int .i64 ec, .int .i64 es_, .int .i64 ek, .int .i64 ea, .int .i64 eb, .int .i64 eg, .int .i64 eh]) := by rw [hv2]; exact Lib.hid ((Blk.new_at _ _ _ _ (by simp [size_set])))
  clear hv2 HR_1
  obtain ⟨gE, hgE⟩ : ∃ q, q = v1.heap.size := ⟨_, rfl⟩
  rw [← hgE] at HE_2
  try rw [← hgE]
  have lgE : v1.heap.size ≤ gE := by omega
  have mgE : gE < v2.heap.size := by omega
  have ngE : ∀ k, v1.heap.size ≤ k → k ≠ gE → True := fun _ _ _ => trivial
  clear ngE
  clear hgE
  have KB2 := HB.out.below f2
  have rb0 := KB2.cell 0
  have rb1 := KB2.cell 1
  have rb2 := KB2.cell 2
  have rbl := KB2.lt
  have ri : v2.cell? ⟨gi, 0, none⟩ = some (.int .i64 ((n : Int) + 1)) := (f2.cell (p := ⟨gi, 0, none⟩) hgi).trans hi
  have lt_E := HE_2.out.lt
  obtain ⟨r_E0, r_E1, r_E2, r_E3, r_E4, r_E5, r_E6, r_E7, r_E8⟩ := bc9 HE_2.out
  go_wp2_with fail
  refine (fits_yes L n c es et ec es_ ek ea eb eg eh v2 ((HIL.out).inB f2 (fun _ hk => hk.2)).out HN.out (by omega) HOK.out HT.out).mono ?_
  rintro e v3 ⟨rfl, b3⟩
  have f3 := bthen f2 b3
  have z3 := b3.size
  have HR_3 := Lib.hid (HR_2.out.below b3)
  have HE_3 := Lib.hid (HE_2.out.below b3)
  clear lt_E r_E0 r_E1 r_E2 r_E3 r_E4 r_E5 r_E6 r_E7 r_E8
  clear HR_2 HE_2
  clear rb0 rb1 rb2 rbl ri KB2
  have rs : v3.cell? ⟨gs, 0, none⟩ = some (.slice S m d) := (f3.cell (p := ⟨gs, 0, none⟩) hgs).trans hs
  have lt_E := HE_3.out.lt
  obtain ⟨r_E0, r_E1, r_E2, r_E3, r_E4, r_E5, r_E6, r_E7, r_E8⟩ := bc9 HE_3.out
  have cm := marked_yes S d es ((n : Int) + 1) et ec es_ ek ea eb eg eh v3 ((HIM.out).inB f3 (fun _ hk => hk.2)).out HP.out
  rw [← HM.out] at cm
  go_wp2_with fail
  refine cm.mono ?_
  rintro e v4 ⟨A4, c4, rfl, R4, b4⟩
  clear cm rs R4
  have f4 := bthen f3 b4
  have z4 := b4.size
  have HR_4 := Lib.hid (HR_3.out.below b4)
  have HE_4 := Lib.hid (HE_3.out.below b4)
  clear lt_E r_E0 r_E1 r_E2 r_E3 r_E4 r_E5 r_E6 r_E7 r_E8
  clear HR_3 HE_3
  have lt_E := HE_4.out.lt
  obtain ⟨r_E0, r_E1, r_E2, r_E3, r_E4, r_E5, r_E6, r_E7, r_E8⟩ := bc9 HE_4.out
  have lt_R := HR_4.out.lt
  obtain ⟨r_R0, r_R1, r_R2, r_R3, r_R4, r_R5, r_R6, r_R7, r_R8⟩ := bc9 HR_4.out
  obtain ⟨z_R0, z_R1, z_R2, z_R3, z_R4, z_R5, z_R6, z_R7, z_R8⟩ := bf9 HR_4.out
  have nq1 : ¬ gR = gE := by omega
  have nq2 : ¬ gE = gR := by omega
  go_wp21
  refine bodyPost_ret (v := .tuple #[.agg #[.int .i64 ((n : Int) + 1), .int .i64 et, .int .i64 ec, .int .i64 es_, .int .i64 ek, .int .i64 ea, .int .i64 eb, .int .i64 eg, .int .i64 eh], .bool true]) (by simp [results, Tryz.results117, go_sem, *]) rfl ?_
  exact ⟨rfl, (((((((((f4).setCell (p := ⟨gR, 0, none⟩) (show w.heap.size ≤ gR by omega) _).setCell (p := ⟨gR, 1, none⟩) (show w.heap.size ≤ gR by omega) _).setCell (p := ⟨gR, 2, none⟩) (show w.heap.size ≤ gR by omega) _).setCell (p := ⟨gR, 3, none⟩) (show w.heap.size ≤ gR by omega) _).setCell (p := ⟨gR, 4, none⟩) (show w.heap.size ≤ gR by omega) _).setCell (p := ⟨gR, 5, none⟩) (show w.heap.size ≤ gR by omega) _).setCell (p := ⟨gR, 6, none⟩) (show w.heap.size ≤ gR by omega) _).setCell (p := ⟨gR, 7, none⟩) (show w.heap.size ≤ gR by omega) _).setCell (p := ⟨gR, 8, none⟩) (show w.heap.size ≤ gR by omega) _⟩
theorem any_take {α : Type} (l : List (List α)) (k : Nat) (h : k < l.length) : (l.take (k + 1)).any (fun r => decide (r.length = 11)) = ((l.take k).any (fun r => decide (r.length = 11)) || decide ((l.getD k []).length = 11)) := by
  rw [List.take_add_one, show l[k]?.toList = [l.getD k []] by simp [List.getD, h], List.any_append]
  simp
set_option maxRecDepth 100000 in
set_option maxHeartbeats 8000000 in
theorem firstIn_any (KA WA KB WB : Option Addr) (cA dA cB dB : Nat) (ra rb : List (List Int)) (at_ gi gb gs : Nat) (en : En) (rows : List (List Int)) (w : World) (hA : Dk w KA 22 WA 0 ra []) (hB : Dk w KB 22 WB 0 rb []) (hat : at_ < 22)
    (hab : ∀ x y, unsumL (ra.getD at_ []) = some x → unsumL (rb.getD at_ []) = some y → x = y ∨ x.length ≠ y.length) (hrows : rightL (ra.getD at_ []) (rb.getD at_ []) = rows) (hr8 : rows.length ≤ 8)
    (hC : ∀ v : World, Below w.heap.size w v → ∀ A c zs, zs ∈ rows → Rw v (.slice A zs.length c) zs → Calls Tryz.prog 117 #[.slice A zs.length c, .pointer (some ⟨gi, 0, none⟩), .pointer (some ⟨gb, 0, none⟩), .pointer (some ⟨gs, 0, none⟩)] v (RdRet (decide (zs.length = 11)) en v)) :
    Calls Tryz.prog 116 #[.agg #[.slice KA 22 cA, .slice WA 0 dA, .slice KB 22 cB, .slice WB 0 dB], .int .i64 (at_ : Nat), .func (.func 117) #[] #[.pointer (some ⟨gi, 0, none⟩), .pointer (some ⟨gb, 0, none⟩), .pointer (some ⟨gs, 0, none⟩)]] w (RdRet (rows.any (fun r => decide (r.length = 11))) en w) := by
  have HAB := Lib.hid hab
  have HRW := Lib.hid hrows
  have HC := Lib.hid hC
  clear hab hrows hC
  have HIA : Hid (On (Rg 0 w.heap.size) (fun x => Dk x KA 22 WA 0 ra []) w) := Lib.hid (On.below_of (fun _ hb => (hA).below hb))
  clear hA
  have HIB : Hid (On (Rg 0 w.heap.size) (fun x => Dk x KB 22 WB 0 rb []) w) := Lib.hid (On.below_of (fun _ hb => (hB).below hb))
  clear hB
  go_enter Tryz.func116, Tryz.ntmps116
  go_wp2_with fail
  refine calls_named ?_
  rintro v0 hv0
  have f0 : Below w.heap.size w v0 := by rw [hv0]; (repeat' (first | (with_reducible exact Below.refl _ _) | (with_reducible assumption) | (with_reducible refine Below.alloc ?_ ?_ _) | (with_reducible refine Below.drew ?_) | (with_reducible refine Below.setCell ?_ ?_ _) | (with_reducible refine bstep (by assumption) ?_ ?_) | (with_reducible exact Nat.le_refl _) | omega | (simp [*]; done) | (simp [*]; omega)))
  have z0 : w.heap.size + 2 ≤ v0.heap.size := by rw [hv0]; simp [size_set]
  have HT_0 : Hid (Blk v0 w.heap.size 42 #[.slice KA 22 cA, .slice WA 0 dA, .slice KB 22 cB, .slice WB 0 dB]) := by rw [hv0]; exact Lib.hid (((Blk.new_at _ _ _ _ (by simp [size_set]))).alloc _)
  have HR_0 : Hid (Blk v0 (w.heap.size + 1) 76 #[.int .i64 0, .int .i64 0, .int .i64 0, .int .i64 0, .int .i64 0, .int .i64 0, .int .i64 0, .int .i64 0, .int .i64 0]) := by rw [hv0]; exact Lib.hid ((Blk.new_at _ _ _ _ (by simp [size_set])))
  clear hv0
  obtain ⟨gR, hgR⟩ : ∃ q, q = w.heap.size + 1 := ⟨_, rfl⟩
  rw [← hgR] at HR_0
  try rw [← hgR]
  have lgR : w.heap.size ≤ gR := by omega
  have mgR : gR < v0.heap.size := by omega
  have ngR : ∀ k, w.heap.size ≤ k → k ≠ gR → True := fun _ _ _ => trivial
  clear ngR
  obtain ⟨gT, hgT⟩ : ∃ q, q = w.heap.size := ⟨_, rfl⟩
  rw [← hgT] at HT_0
  try rw [← hgT]
  have lgT : w.heap.size ≤ gT := by omega
  have mgT : gT < v0.heap.size := by omega
  have ngT : ∀ k, w.heap.size ≤ k → k ≠ gT → True := fun _ _ _ => trivial
  clear ngT
  have nnTR : gT < gR := by omega
  clear hgT
  clear hgR
  have cr := rightAt_any KA WA KB WB cA dA cB dB ra rb at_ v0 ((HIA.out).inB f0 (fun _ hk => hk.2)).out ((HIB.out).inB f0 (fun _ hk => hk.2)).out hat HAB.out
  rw [HRW.out] at cr
  refine cr.mono ?_
  rintro e v1 ⟨A1, c1, vs1, rfl, hO, b1⟩
  clear cr
  obtain ⟨nr, hnr⟩ : ∃ q, q = rows.length := ⟨_, rfl⟩
  rw [← hnr] at hO hr8 ⊢
  have HNR := Lib.hid hnr
  clear hnr
  have f1 := bthen f0 b1
  have z1 := b1.size
  have HT_1 := Lib.hid (HT_0.out.below b1)
  have HR_1 := Lib.hid (HR_0.out.below b1)
  clear HT_0 HR_0
  have HO1 := Lib.hid hO
  clear hO
  go_wp2_with fail
  go_loopw [17] (fun iv wr => ∃ k : Nat, k ≤ nr ∧ iv = .int .i64 k ∧ Hid ((rows.take k).any (fun r => decide (r.length = 11)) = false) ∧ Hid (On (Rg v0.heap.size v1.heap.size) (fun x => OwnK x v0.heap.size 59 A1 nr c1 rows vs1) wr) ∧ Hid (Blk wr gR 76 #[.int .i64 0, .int .i64 0, .int .i64 0, .int .i64 0, .int .i64 0, .int .i64 0, .int .i64 0, .int .i64 0, .int .i64 0]) ∧ Hid (Below w.heap.size w wr) ∧ v1.heap.size ≤ wr.heap.size) (fun iv _ => nr - (intOf iv).toNat)
  case atStart => exact ⟨0, Nat.zero_le _, rfl, Lib.hid (by simp), HO1, HR_1, Lib.hid f1, Nat.le_refl _⟩
  case round =>
    clear HO1 HR_1 HT_1 f1
    obtain ⟨k, hk, rfl, hany, HO, HR, HF, hsz⟩ := hrel
    by_cases hlt : k < nr
    · have hlt' : (k : Int) < (nr : Int) := by omega
      have hkr : k < rows.length := by rw [← HNR.out]; exact hlt
      obtain ⟨b, off, v, rfl, hb, hc, hv⟩ := HO.out.out.slr.at_ hlt
      obtain ⟨Ax, cx, rfl, hSx, hx1, hx2, hx3, hx4⟩ := hv
      have hmem : rows.getD k [] ∈ rows := by simp [List.getD, hkr]
      have hcc := HC.out wr HF.out Ax cx (rows.getD k []) hmem ⟨Ax, cx, rfl, hSx, hx1, hx2, hx3, hx4⟩
      have hat2 := any_take rows k hkr
      rw [hany.out, Bool.false_or] at hat2
      have HAT := Lib.hid hat2
      have HDD : Hid (decide ((rows.getD k []).length = 11) = true → rows.any (fun r => decide (r.length = 11)) = true) := Lib.hid (fun h => List.any_eq_true.2 ⟨_, hmem, h⟩)
      clear hmem hat2 hSx hx1 hx2 hx3 hx4
      generalize hdl : (rows.getD k []).length = mk at hc hcc HAT HDD
      by_cases h11 : mk = 11
      · have hd : decide (mk = 11) = true := decide_eq_true h11
        rw [hd] at hcc
        have HHIT := Lib.hid (HDD.out hd)
        clear hdl h11 hd HAT HDD
        go_wp2_with fail
        refine hcc.mono ?_
        rintro e v3 ⟨rfl, b3⟩
        rw [if_pos rfl]
        unfold enV
        obtain ⟨ex, et, ec, es_, ek, ea, eb, eg, eh⟩ := en
        have KR := HR.out.below b3
        have F3 := bthen HF.out b3
        have z3 := b3.size
        clear hcc HC HO HR HF hany b3 hc hb
        have lR := KR.lt
        have r0 := KR.cell 0
        have y0 := KR.frozen 0
        have r1 := KR.cell 1
        have y1 := KR.frozen 1
        have r2 := KR.cell 2
        have y2 := KR.frozen 2
        have r3 := KR.cell 3
        have y3 := KR.frozen 3
        have r4 := KR.cell 4
        have y4 := KR.frozen 4
        have r5 := KR.cell 5
        have y5 := KR.frozen 5
        have r6 := KR.cell 6
        have y6 := KR.frozen 6
        have r7 := KR.cell 7
        have y7 := KR.frozen 7
        have r8 := KR.cell 8
        have y8 := KR.frozen 8
        clear KR
        go_wp21
        refine bodyPost_ret (v := .tuple #[.agg #[.int .i64 ex, .int .i64 et, .int .i64 ec, .int .i64 es_, .int .i64 ek, .int .i64 ea, .int .i64 eb, .int .i64 eg, .int .i64 eh], .bool true]) (by simp [results, Tryz.results116, go_sem, *]) rfl ?_
        rw [HHIT.out]
        exact ⟨rfl, by (repeat' (first | (with_reducible exact Below.refl _ _) | (with_reducible assumption) | (with_reducible refine Below.alloc ?_ ?_ _) | (with_reducible refine Below.drew ?_) | (with_reducible refine Below.setCell ?_ ?_ _) | (with_reducible refine bstep (by assumption) ?_ ?_) | (with_reducible exact Nat.le_refl _) | omega | (simp [*]; done) | (simp [*]; omega)))⟩
      · have hd : decide (mk = 11) = false := decide_eq_false h11
        rw [hd] at hcc HAT
        clear hdl h11 hd HDD
        go_wp2_with fail
        refine hcc.mono ?_
        rintro e v3 ⟨rfl, b3⟩
        rw [if_neg (by decide)]
        have KR := Lib.hid (HR.out.below b3)
        have F3 := Lib.hid (bthen HF.out b3)
        have HO3 := Lib.hid (HO.out.below b3)
        have z3 := b3.size
        clear hcc HO HR HF hany b3 hc hb
        go_wp2_with fail
        exact ⟨⟨k + 1, by omega, by go_num, HAT, Lib.hid (HO3.out.alloc _), Lib.hid (KR.out.alloc _), Lib.hid (F3.out.alloc F3.out.size _), by simp; omega⟩, by simp [intOf]; omega⟩
    · have hkn : k = nr := by omega
      have hall : rows.any (fun r => decide (r.length = 11)) = false := by
        have := hany.out
        rwa [hkn, HNR.out, List.take_length] at this
      have HALL := Lib.hid hall
      subst hkn
      have KR := HR.out
      have F3 := HF.out
      clear HO HR HF hany HC hall
      have lR := KR.lt
      have r0 := KR.cell 0
      have y0 := KR.frozen 0
      have r1 := KR.cell 1
      have y1 := KR.frozen 1
      have r2 := KR.cell 2
      have y2 := KR.frozen 2
      have r3 := KR.cell 3
      have y3 := KR.frozen 3
      have r4 := KR.cell 4
      have y4 := KR.frozen 4
      have r5 := KR.cell 5
      have y5 := KR.frozen 5
      have r6 := KR.cell 6
      have y6 := KR.frozen 6
      have r7 := KR.cell 7
      have y7 := KR.frozen 7
      have r8 := KR.cell 8
      have y8 := KR.frozen 8
      clear KR
      go_wp21
      refine bodyPost_ret (v := .tuple #[.agg #[.int .i64 0, .int .i64 0, .int .i64 0, .int .i64 0, .int .i64 0, .int .i64 0, .int .i64 0, .int .i64 0, .int .i64 0], .bool false]) (by simp [results, Tryz.results116, go_sem, *]) rfl ?_
      rw [HALL.out]
      exact ⟨rfl, by (repeat' (first | (with_reducible exact Below.refl _ _) | (with_reducible assumption) | (with_reducible refine Below.alloc ?_ ?_ _) | (with_reducible refine Below.drew ?_) | (with_reducible refine Below.setCell ?_ ?_ _) | (with_reducible refine bstep (by assumption) ?_ ?_) | (with_reducible exact Nat.le_refl _) | omega | (simp [*]; done) | (simp [*]; omega)))⟩
end Go.Proofs.YtbheflinchabgaaGreatDoor
namespace Go.Proofs.YtbheflinchabgaaGreatDoor
set_option linter.unusedSimpArgs false
set_option linter.unusedVariables false
attribute [local go_sem] n_lt2 n_lt3 n_lt4 n_le2 n_le3
open Go.RowKit
attribute [local go_sem] Ext.cell Ext.frozen
/-- What two disks hold, read slot by slot: the entries fs. -/
structure ReadP (ra rb : List (List Int)) (fs : List En) : Prop where
  ok : entsP fs
  hit : ∀ k, k < fs.length → (rightL (ra.getD (3 + k) []) (rb.getD (3 + k) [])).any (fun r => decide (r.length = 11)) = true ∧ ∀ zs ∈ rightL (ra.getD (3 + k) []) (rb.getD (3 + k) []), zs.length = 11 → zs = slotL (fs.getD k default)
  miss : (rightL (ra.getD (3 + fs.length) []) (rb.getD (3 + fs.length) [])).any (fun r => decide (r.length = 11)) = false
  ab : ∀ k, k ≤ fs.length → ∀ x y, unsumL (ra.getD (3 + k) []) = some x → unsumL (rb.getD (3 + k) []) = some y → x = y ∨ x.length ≠ y.length
theorem rightL_le (a b : List Int) : (rightL a b).length ≤ 2 := by
  unfold rightL
  split <;> split <;> (try split) <;> simp
theorem take_getD (fs : List En) (k : Nat) (h : k < fs.length) : fs.take (k + 1) = fs.take k ++ [fs.getD k default] := by
  rw [List.take_add_one, show fs[k]?.toList = [fs.getD k default] by simp [List.getD, h]]
theorem timeL_take {fs : List En} (h : entsP fs) {k : Nat} (hk : k < fs.length) : timeL (fs.take k) ≤ (fs.getD k default).t := by
  unfold timeL
  rw [List.length_take, Nat.min_eq_left (by omega)]
  by_cases h0 : k = 0
  · subst h0
    rw [if_pos rfl]
    exact (h.2.1 0 hk).2.2.2.2.2.2.2.2.1
  · rw [if_neg h0]
    have := h.2.2 (k - 1) (by omega)
    rw [show k - 1 + 1 = k by omega] at this
    rw [show (fs.take k).getD (k - 1) default = fs.getD (k - 1) default by simp [List.getD, List.getElem?_take, show k - 1 < k by omega]]
    exact this
theorem slotOf_p (n p : Nat) (w : World) (h : n < 19) (hp : p = 3 + n) : Calls Tryz.prog 84 #[.int .i64 ((n : Int) + 1)] w fun e w' => e = .returned (.int .i64 (p : Int)) ∧ w = w' :=
  (slotOf_small ((n : Int) + 1) w (by omega)).mono fun e w' hq => ⟨by rw [hq.1, hp]; congr 2; simp; omega, hq.2⟩
theorem cell_nine_at {w : World} {x0 x1 x2 x3 x4 x5 x6 x7 x8 : Int} {t : TypeId} {g : Nat} (hg : w.heap.size = g) : ∀ j u, (ints [x0, x1, x2, x3, x4, x5, x6, x7, x8])[j]? = some u → (w.alloc (.cells #[.int .i64 x0, .int .i64 x1, .int .i64 x2, .int .i64 x3, .int .i64 x4, .int .i64 x5, .int .i64 x6, .int .i64 x7, .int .i64 x8] t)).cell? ((⟨g, 0, none⟩ : Addr).add j) = some u := by
  subst hg
  exact lit_cells [x0, x1, x2, x3, x4, x5, x6, x7, x8] (Blk.new_at _ _ _ _ rfl) rfl
def BIrel (gk : Nat) (wr w : World) (fs : List En) (lo g5 g6 gT gR : Nat) (D0 D1 D2 D3 : Value) : Prop := ∃ (k : Nat) (L : Option Addr) (c : Nat) (S : Option Addr) (d : Nat) (TS : Nat → Prop), gk = 9 - k ∧ k ≤ fs.length ∧ Hid (Row wr lo 76 9 L k c (EN (fs.take k))) ∧ Hid (Blk wr g5 48 #[.int .i64 0, .int .i64 0, .slice L k c]) ∧ Hid (Blk wr g6 43 #[.slice S (markN (fs.take k)) d]) ∧
  Hid (On TS (fun x => Sl x 3 S (markN (fs.take k)) (markL (fs.take k))) wr) ∧ Hid (¬ TS g5 ∧ ¬ TS g6 ∧ (∀ a, L = some a → ¬ TS a.block) ∧ ∀ b, TS b → b < wr.heap.size) ∧ Hid (Blk wr gT 42 #[D0, D1, D2, D3]) ∧ Hid (Blk wr gR 48 #[.int .i64 0, .int .i64 0, .slice none 0 0]) ∧ Hid (Below w.heap.size w wr) ∧ lo ≤ wr.heap.size
/-- What BookIn hands back. -/
def RetBook (w : World) (fs : List En) (e : Ending) (w' : World) : Prop := ∃ L c, e = .returned (.agg #[.int .i64 0, .int .i64 0, .slice L fs.length c]) ∧ Row w' w.heap.size 76 9 L fs.length c (EN fs) ∧ Below w.heap.size w w'
set_option maxRecDepth 100000 in
set_option maxHeartbeats 8000000 in
theorem bookIn_yes (KA WA KB WB S0 : Option Addr) (cA dA cB dB c0 : Nat) (ra rb : List (List Int)) (fs : List En) (w : World) (hA : Dk w KA 22 WA 0 ra []) (hB : Dk w KB 22 WB 0 rb []) (hR : ReadP ra rb fs) :
    Calls Tryz.prog 82 #[.agg #[.slice KA 22 cA, .slice WA 0 dA, .slice KB 22 cB, .slice WB 0 dB], .agg #[.int .i64 0, .int .i64 0, .int .i64 0, .slice S0 0 c0]] w (RetBook w fs) := by
  have HRP := Lib.hid hR
  have hf8 := hR.ok.1
  clear hR
  have HIA : Hid (On (Rg 0 w.heap.size) (fun x => Dk x KA 22 WA 0 ra []) w) := Lib.hid (On.below_of (fun _ hb => (hA).below hb))
  clear hA
  have HIB : Hid (On (Rg 0 w.heap.size) (fun x => Dk x KB 22 WB 0 rb []) w) := Lib.hid (On.below_of (fun _ hb => (hB).below hb))
  clear hB
  go_enter Tryz.func82, Tryz.ntmps82
  go_wp2_with fail
  refine calls_named ?_
  rintro v0 hv0
  have f0 : Below w.heap.size w v0 := by rw [hv0]; (repeat' (first | (with_reducible exact Below.refl _ _) | (with_reducible assumption) | (with_reducible refine Below.alloc ?_ ?_ _) | (with_reducible refine Below.drew ?_) | (with_reducible refine Below.setCell ?_ ?_ _) | (with_reducible refine bstep (by assumption) ?_ ?_) | (with_reducible exact Nat.le_refl _) | omega | (simp [*]; done) | (simp [*]; omega)))
  have z0 : w.heap.size + 3 ≤ v0.heap.size := by rw [hv0]; simp [size_set]
  have HT_0 : Hid (Blk v0 w.heap.size 42 #[.slice KA 22 cA, .slice WA 0 dA, .slice KB 22 cB, .slice WB 0 dB]) := by rw [hv0]; exact Lib.hid ((((Blk.new_at _ _ _ _ (by simp [size_set]))).alloc _).alloc _)
  have HH_0 : Hid (Blk v0 (w.heap.size + 1) 45 #[.int .i64 0, .int .i64 0, .int .i64 0, .slice S0 0 c0]) := by rw [hv0]; exact Lib.hid (((Blk.new_at _ _ _ _ (by simp [size_set]))).alloc _)
  have HR_0 : Hid (Blk v0 (w.heap.size + 2) 48 #[.int .i64 0, .int .i64 0, .slice none 0 0]) := by rw [hv0]; exact Lib.hid ((Blk.new_at _ _ _ _ (by simp [size_set])))
  clear hv0
  obtain ⟨gR, hgR⟩ : ∃ q, q = w.heap.size + 2 := ⟨_, rfl⟩
  rw [← hgR] at HR_0
  try rw [← hgR]
  have lgR : w.heap.size ≤ gR := by omega
  have mgR : gR < v0.heap.size := by omega
  have ngR : ∀ k, w.heap.size ≤ k → k ≠ gR → True := fun _ _ _ => trivial
  clear ngR
  obtain ⟨gH, hgH⟩ : ∃ q, q = w.heap.size + 1 := ⟨_, rfl⟩
  rw [← hgH] at HH_0
  try rw [← hgH]
  have lgH : w.heap.size ≤ gH := by omega
  have mgH : gH < v0.heap.size := by omega
  have ngH : ∀ k, w.heap.size ≤ k → k ≠ gH → True := fun _ _ _ => trivial
  clear ngH
  obtain ⟨gT, hgT⟩ : ∃ q, q = w.heap.size := ⟨_, rfl⟩
  rw [← hgT] at HT_0
  try rw [← hgT]
  have lgT : w.heap.size ≤ gT := by omega
  have mgT : gT < v0.heap.size := by omega
  have ngT : ∀ k, w.heap.size ≤ k → k ≠ gT → True := fun _ _ _ => trivial
  clear ngT
  have nnTH : gT < gH := by omega
  have nnTR : gT < gR := by omega
  have nnHR : gH < gR := by omega
  clear hgT
  clear hgH
  clear hgR
  refine (keptOk_yes KA WA KB WB cA 0 dA cB 0 dB ra rb [] [] v0 ((HIA.out).inB f0 (fun _ hk => hk.2)).out ((HIB.out).inB f0 (fun _ hk => hk.2)).out).mono ?_
  rintro e v1 ⟨rfl, b1⟩
  have f1 := bthen f0 b1
  have z1 := b1.size
  have HT_1 := Lib.hid (HT_0.out.below b1)
  have HH_1 := Lib.hid (HH_0.out.below b1)
  have HR_1 := Lib.hid (HR_0.out.below b1)
  clear HT_0 HH_0 HR_0
  have lt_H := HH_1.out.lt
  obtain ⟨r_H0, r_H1, r_H2, r_H3⟩ := bc4 HH_1.out
  go_wp2_with fail
  refine (headOk_zero S0 c0 v1).mono ?_
  rintro e v2 ⟨rfl, b2⟩
  have f2 := bthen f1 b2
  have z2 := b2.size
  have HT_2 := Lib.hid (HT_1.out.below b2)
  have HH_2 := Lib.hid (HH_1.out.below b2)
  have HR_2 := Lib.hid (HR_1.out.below b2)
  clear lt_H r_H0 r_H1 r_H2 r_H3
  clear HT_1 HH_1 HR_1
  go_upto_region 3 with fail
  have lt_H := HH_2.out.lt
  obtain ⟨r_H0, r_H1, r_H2, r_H3⟩ := bc4 HH_2.out
  have hS0 : ∀ b o, b < v2.heap.size → v2.cell? ⟨b, o, none⟩ = v2.cell? ⟨b, o, none⟩ := fun _ _ _ => rfl
  go_cut [5, 6] from 10 (fun p5 p6 wx => ∃ g5 g6, p5 = .pointer (some ⟨g5, 0, none⟩) ∧ p6 = .pointer (some ⟨g6, 0, none⟩) ∧ g5 ≠ g6 ∧ v2.heap.size ≤ g5 ∧ v2.heap.size ≤ g6 ∧ Blk wx g5 48 #[.int .i64 0, .int .i64 0, .slice none 0 0] ∧ Blk wx g6 43 #[.slice S0 0 c0] ∧ Below v2.heap.size v2 wx)
  case first =>
    go_region_held_law (fun w' => ∀ b o, b < v2.heap.size → w'.cell? ⟨b, o, none⟩ = v2.cell? ⟨b, o, none⟩) (repeat' (first | with_reducible assumption | with_reducible exact Nat.le_refl _ | with_reducible exact Nat.le_succ _ | with_reducible exact hS0 | with_reducible refine rd_drew ?_ | with_reducible refine hd_alloc ?_ ?_ _ | with_reducible refine rd_set ?_ ?_ _ _ | (simp; done))) (fail)
    all_goals
      go_wp2_with fail
      go_meet
      first
        | exact ⟨_, _, rfl, rfl, by omega, by omega, by omega, ((Blk.new_at _ _ _ _ rfl).alloc _).drew, (Blk.new_at _ _ _ _ (by simp)).drew, (((Below.refl _ _).alloc (Nat.le_refl _) _).alloc (by simp) _).drew⟩
        | exact ⟨_, _, rfl, rfl, by omega, by omega, by omega, (Blk.new_at _ _ _ _ (by simp)).drew, ((Blk.new_at _ _ _ _ rfl).alloc _).drew, (((Below.refl _ _).alloc (Nat.le_refl _) _).alloc (by simp) _).drew⟩
  case rest =>
    obtain ⟨g5, g6, rfl, rfl, n56, l5, l6, K5, K6, b3⟩ := hcut
    rename World => v3
    clear hS0
    clear lt_H r_H0 r_H1 r_H2 r_H3
    have f3 := bthen f2 b3
    have z3 := b3.size
    have HT_3 := Lib.hid (HT_2.out.below b3)
    have HH_3 := Lib.hid (HH_2.out.below b3)
    have HR_3 := Lib.hid (HR_2.out.below b3)
    clear HT_2 HH_2 HR_2
    have m5 := K5.lt
    have m6 := K6.lt
    have HK5 := Lib.hid K5
    have HK6 := Lib.hid K6
    clear K5 K6
    have HF3 := Lib.hid f3
    have R0 : Row v3 v3.heap.size 76 9 none 0 0 [] := Row.nil _ _ _ _
    go_wp2_with fail
    go_loopg [] 9 (fun gk wr => BIrel gk wr w fs v3.heap.size g5 g6 gT gR (.slice KA 22 cA) (.slice WA 0 dA) (.slice KB 22 cB) (.slice WB 0 dB))
    case atStart => unfold BIrel; exact ⟨0, none, 0, S0, c0, fun _ => False, rfl, Nat.zero_le _, Lib.hid R0, HK5, HK6, Lib.hid (fun w' _ => Sl.nil _ _ _), Lib.hid ⟨id, id, fun _ _ => id, fun _ h => h.elim⟩, HT_3, HR_3, HF3, Nat.le_refl _⟩
    case round =>
      clear HK5 HK6 HF3 R0 HH_3 HT_3 HR_3
      unfold BIrel at hrel
      obtain ⟨k, L, c, S, d, TS, rfl, hk, HL, H5, H6, HS, HTS, HT, HR, HF, hlo⟩ := hrel
      have HLf := Lib.hid (show On (fun b => ∃ a, L = some a ∧ a.block = b) (fun x => Row x v3.heap.size 76 9 L k c (EN (fs.take k))) wr from fun w' hag => HL.out.agr hag (fun a ha => ⟨a, ha, rfl⟩))
      have hkl : (fs.take k).length = k := by rw [List.length_take]; omega
      obtain ⟨mk, hmk⟩ : ∃ q, q = markN (fs.take k) := ⟨_, rfl⟩
      have HMK := Lib.hid hmk
      rw [← hmk] at H6
      obtain ⟨v4, hv4⟩ : ∃ x, x = wr := ⟨_, rfl⟩
      rw [← hv4] at HL H5 H6 HS HTS HT HR HF hlo HLf ⊢
      have f4 := HF.out
      have z4 := hlo
      have hlt5 := H5.out.lt
      clear hv4 hmk HF hlo
      have H5_4 := H5
      have H6_4 := H6
      have HT_4 := HT
      have HR_4 := HR
      have HL_4 := HLf
      have HS_4 := HS
      have hLge := Lib.hid HL.out.ge
      have hLlt := Lib.hid HL.out.lt
      clear H5 H6 HT HR HLf HS HL
      have lt_5 := H5_4.out.lt
      obtain ⟨r_50, r_51, r_52⟩ := bc3 H5_4.out
      go_wp2_with fail
      refine (lastOf_zero L k c v4 (by omega)).mono ?_
      rintro e v5 ⟨rfl, b5⟩
      have f5 := bthen f4 b5
      have z5 := b5.size
      have H5_5 := Lib.hid (H5_4.out.below b5)
      have H6_5 := Lib.hid (H6_4.out.below b5)
      have HT_5 := Lib.hid (HT_4.out.below b5)
      have HR_5 := Lib.hid (HR_4.out.below b5)
      have HL_5 := Lib.hid (HL_4.out.below b5)
      have HS_5 := Lib.hid (HS_4.out.below b5)
      clear lt_5 r_50 r_51 r_52
      clear H5_4 H6_4 HT_4 HR_4 HL_4 HS_4
      have hw : IntKind.i64.wrap ((k : Int) + 1) = (k : Int) + 1 := wrap_small (by omega)
      go_upto_region 5 with fail
      obtain ⟨v6, hv6⟩ : ∃ x : World, x = (v5.alloc (.cells #[.int .i64 ((k : Int) + 1)] 2)) := ⟨_, rfl⟩
      rw [← hv6]
      have f6 : Below w.heap.size w v6 := by rw [hv6]; (repeat' (first | (with_reducible exact Below.refl _ _) | (with_reducible assumption) | (with_reducible refine Below.alloc ?_ ?_ _) | (with_reducible refine Below.drew ?_) | (with_reducible refine Below.setCell ?_ ?_ _) | (with_reducible refine bstep (by assumption) ?_ ?_) | (with_reducible exact Nat.le_refl _) | omega | (simp [*]; done) | (simp [*]; omega)))
      have z6 : v5.heap.size + 1 ≤ v6.heap.size := by rw [hv6]; simp [size_set]
      have H5_6 : Hid (Blk v6 g5 48 #[.int .i64 0, .int .i64 0, .slice L k c]) := by rw [hv6]; exact Lib.hid ((H5_5.out).alloc _)
      have H6_6 : Hid (Blk v6 g6 43 #[.slice S mk d]) := by rw [hv6]; exact Lib.hid ((H6_5.out).alloc _)
      have HT_6 : Hid (Blk v6 gT 42 #[.slice KA 22 cA, .slice WA 0 dA, .slice KB 22 cB, .slice WB 0 dB]) := by rw [hv6]; exact Lib.hid ((HT_5.out).alloc _)
      have HR_6 : Hid (Blk v6 gR 48 #[.int .i64 0, .int .i64 0, .slice none 0 0]) := by rw [hv6]; exact Lib.hid ((HR_5.out).alloc _)
      have HL_6 : Hid (On (fun b => ∃ a, L = some a ∧ a.block = b) (fun x => Row x v3.heap.size 76 9 L k c (EN (fs.take k))) v6) := by rw [hv6]; exact Lib.hid ((HL_5.out).alloc _)
      have HS_6 : Hid (On TS (fun x => Sl x 3 S (markN (fs.take k)) (markL (fs.take k))) v6) := by rw [hv6]; exact Lib.hid ((HS_5.out).alloc _)
      have HI_6 : Hid (Blk v6 v5.heap.size 2 #[.int .i64 ((k : Int) + 1)]) := by rw [hv6]; exact Lib.hid ((Blk.new_at _ _ _ _ (by simp [size_set])))
      clear hv6 H5_5 H6_5 HT_5 HR_5 HL_5 HS_5
      obtain ⟨gI, hgI⟩ : ∃ q, q = v5.heap.size := ⟨_, rfl⟩
      rw [← hgI] at HI_6
      try rw [← hgI]
      have lgI : v5.heap.size ≤ gI := by omega
      have mgI : gI < v6.heap.size := by omega
      have ngI : ∀ k, v5.heap.size ≤ k → k ≠ gI → True := fun _ _ _ => trivial
      clear ngI
      clear hgI
      clear hw
      obtain ⟨pp, hpp⟩ : ∃ q, q = 3 + k := ⟨_, rfl⟩
      have HPP := Lib.hid hpp
      clear hpp
      have hp22 : pp < 22 := by rw [HPP.out]; omega
      obtain ⟨hit, en, hfi, hhit⟩ : ∃ (hit : Bool) (en : En), (∀ W : World, Below v6.heap.size v6 W → Calls Tryz.prog 116 #[.agg #[.slice KA 22 cA, .slice WA 0 dA, .slice KB 22 cB, .slice WB 0 dB], .int .i64 (pp : Nat), .func (.func 117) #[] #[.pointer (some ⟨gI, 0, none⟩), .pointer (some ⟨g5, 0, none⟩), .pointer (some ⟨g6, 0, none⟩)]] W (fun r w' => r = .returned (.tuple #[enV en, .bool hit]) ∧ Below W.heap.size W w')) ∧ ((hit = true ∧ k < fs.length ∧ en = fs.getD k default) ∨ (hit = false ∧ k = fs.length)) := by
        have hI : ∀ V, Below v6.heap.size v6 V → V.cell? ⟨gI, 0, none⟩ = some (.int .i64 ((k : Int) + 1)) := fun V hV => (HI_6.out.below hV).cell 0
        have h6c : ∀ V, Below v6.heap.size v6 V → V.cell? ⟨g6, 0, none⟩ = some (.slice S (markN (fs.take k)) d) := fun V hV => by rw [← HMK.out]; exact (H6_6.out.below hV).cell 0
        by_cases hkf : k < fs.length
        · obtain ⟨hany, hall⟩ := HRP.out.hit k hkf
          rw [← HPP.out] at hany hall
          refine ⟨true, fs.getD k default, fun W hW => ?_, .inl ⟨rfl, hkf, rfl⟩⟩
          have hq := firstIn_any KA WA KB WB cA dA cB dB ra rb pp gI g5 g6 (fs.getD k default) _ W ((HIA.out).inB (bthen f6 hW) (fun _ hk => hk.2)).out ((HIB.out).inB (bthen f6 hW) (fun _ hk => hk.2)).out hp22 (by rw [HPP.out]; exact HRP.out.ab k (by omega)) rfl (Nat.le_trans (rightL_le _ _) (by decide)) ?_
          · rw [hany] at hq
            exact hq.mono fun r w' h => ⟨h.1, h.2⟩
          · intro V hV A c' zs hzs hRw
            have hV6 := bthen hW hV
            by_cases h11 : zs.length = 11
            · have hzl := hall zs hzs h11
              rw [decide_eq_true h11]
              have hek := HRP.out.ok.2.1 k hkf
              have htk := timeL_take HRP.out.ok hkf
              have hpk : entsP (fs.take k ++ [fs.getD k default]) := by rw [← take_getD fs k hkf]; exact HRP.out.ok.take _
              obtain ⟨en, hen⟩ : ∃ q, q = fs.getD k default := ⟨_, rfl⟩
              rw [← hen] at hek htk hpk hzl ⊢
              obtain ⟨ex, et, ec, es_, ek, ea, eb, eg, eh⟩ := en
              have hx := hek.1
              simp only at hx htk
              subst hx
              obtain ⟨A', c'', hv, hSx, hx1, hx2, hx3, hx4⟩ := hRw
              injection hv with e1 e2 e3
              subst e1 e3
              rw [h11] at hSx hx1 ⊢
              obtain ⟨b, off, rfl, -, -⟩ := hSx.at_ (by decide)
              rw [hzl] at hSx
              exact bookIn1_yes b off c' gI g5 g6 k c d L S (fs.take k) et ec es_ ek ea eb eg eh V hSx hx1 hx2 (hI V hV6) (H5_6.out.below hV6) (h6c V hV6) (by have := hV6.size; omega) (by have := hV6.size; omega) (HL_6.out.below hV6).out.sl (HS_6.out.below hV6).out hkl hek hpk htk
            · rw [decide_eq_false h11]
              obtain ⟨A', c'', hv, hSx, hx1, hx2, hx3, hx4⟩ := hRw
              exact bookIn1_no A zs.length c' gI g5 g6 _ V h11 (by omega)
        · have hke : k = fs.length := by omega
          refine ⟨false, default, fun W hW => ?_, .inr ⟨rfl, hke⟩⟩
          have hmiss := HRP.out.miss
          rw [← hke, ← HPP.out] at hmiss
          have hq := firstIn_any KA WA KB WB cA dA cB dB ra rb pp gI g5 g6 default _ W ((HIA.out).inB (bthen f6 hW) (fun _ hk => hk.2)).out ((HIB.out).inB (bthen f6 hW) (fun _ hk => hk.2)).out hp22 (by rw [HPP.out]; exact HRP.out.ab k (by omega)) rfl (Nat.le_trans (rightL_le _ _) (by decide)) ?_
          · rw [hmiss] at hq
            exact hq.mono fun r w' h => ⟨h.1, h.2⟩
          · intro V hV A c' zs hzs hRw
            have h11 : zs.length ≠ 11 := fun h => by
              have := List.any_eq_false.1 hmiss zs hzs
              simp [h] at this
            rw [decide_eq_false h11]
            obtain ⟨A', c'', hv, hSx, hx1, hx2, hx3, hx4⟩ := hRw
            exact bookIn1_no A zs.length c' gI g5 g6 _ V h11 (by omega)
      have HHIT := Lib.hid hhit
      clear hhit
      have lt_T := HT_6.out.lt
      obtain ⟨r_T0, r_T1, r_T2, r_T3⟩ := bc4 HT_6.out
      have lt_I := HI_6.out.lt
      have r_I0 : v6.cell? ⟨gI, 0, none⟩ = some (.int .i64 ((k : Int) + 1)) := HI_6.out.cell 0
      have hS0 : ∀ b o, b < v6.heap.size → v6.cell? ⟨b, o, none⟩ = v6.cell? ⟨b, o, none⟩ := fun _ _ _ => rfl
      obtain ⟨ex, et, ec, es_, ek, ea, eb, eg, eh⟩ := en
      unfold enV at hfi
      simp only at hfi
      go_cut [8, 9] from 29 (fun p8 v9 wx => ∃ g8, p8 = .pointer (some ⟨g8, 0, none⟩) ∧ v6.heap.size ≤ g8 ∧ v9 = .bool hit ∧ Blk wx g8 76 #[.int .i64 ex, .int .i64 et, .int .i64 ec, .int .i64 es_, .int .i64 ek, .int .i64 ea, .int .i64 eb, .int .i64 eg, .int .i64 eh] ∧ Below v6.heap.size v6 wx ∧ g8 < wx.heap.size)
      case first =>
        go_region_held_law (fun w' => ∀ b o, b < v6.heap.size → w'.cell? ⟨b, o, none⟩ = v6.cell? ⟨b, o, none⟩) (repeat' (first | with_reducible assumption | with_reducible exact Nat.le_refl _ | with_reducible exact Nat.le_succ _ | with_reducible exact hS0 | with_reducible refine rd_drew ?_ | with_reducible refine hd_alloc ?_ ?_ _ | with_reducible refine rd_set ?_ ?_ _ _ | (simp; done))) (first | (go_at_call 84; refine (slotOf_p k pp _ (by omega) HPP.out).mono ?_; rintro e w' ⟨rfl, rfl⟩) | (go_at_call 116; refine (hfi _ ?_).mono ?_; (first | with_reducible exact Below.drew (Below.refl _ _) | with_reducible exact Below.drew ((Below.refl _ _).alloc (Nat.le_refl _) _) | with_reducible exact (Below.drew (Below.refl _ _)).alloc (Nat.le_refl _) _); rintro e w7 ⟨rfl, b7⟩; have E7 : Below v6.heap.size v6 w7 := (by first | with_reducible exact hd_dr b7 | with_reducible exact hd_da b7 | with_reducible exact hd_ad b7); have zE7 := E7.size; have hS7 : ∀ b o, b < v6.heap.size → w7.cell? ⟨b, o, none⟩ = v6.cell? ⟨b, o, none⟩ := fun b o hb => E7.cell (p := ⟨b, o, none⟩) hb; (first | (have KB : Blk w7 v6.heap.size 76 #[.int .i64 0, .int .i64 0, .int .i64 0, .int .i64 0, .int .i64 0, .int .i64 0, .int .i64 0, .int .i64 0, .int .i64 0] := by  with_reducible exact blk_b2 b7 (Blk.new_at _ _ _ _ rfl)) | (have KB : Blk w7 v6.heap.size 76 #[.int .i64 0, .int .i64 0, .int .i64 0, .int .i64 0, .int .i64 0, .int .i64 0, .int .i64 0, .int .i64 0, .int .i64 0] := by  with_reducible exact blk_b2 b7 (Blk.drew (Blk.new_at _ _ _ _ rfl))) | (have KB : Blk w7 v6.heap.size 76 #[.int .i64 0, .int .i64 0, .int .i64 0, .int .i64 0, .int .i64 0, .int .i64 0, .int .i64 0, .int .i64 0, .int .i64 0] := by  with_reducible exact blk_b2 b7 (Blk.new_at _ _ _ _ (drew_size2 _))) | skip); (try (have kb0 := KB.cell 0)); (try (have kf0 := KB.frozen 0)); (try (have kb1 := KB.cell 1)); (try (have kf1 := KB.frozen 1)); (try (have kb2 := KB.cell 2)); (try (have kf2 := KB.frozen 2)); (try (have kb3 := KB.cell 3)); (try (have kf3 := KB.frozen 3)); (try (have kb4 := KB.cell 4)); (try (have kf4 := KB.frozen 4)); (try (have kb5 := KB.cell 5)); (try (have kf5 := KB.frozen 5)); (try (have kb6 := KB.cell 6)); (try (have kf6 := KB.frozen 6)); (try (have kb7 := KB.cell 7)); (try (have kf7 := KB.frozen 7)); (try (have kb8 := KB.cell 8)); (try (have kf8 := KB.frozen 8)); (try (have kbl := KB.lt))))
        all_goals
          go_wp2_with fail
          go_meet
          first
            | ((with_reducible refine ⟨_, rfl, zE7, rfl, Blk.new_at _ _ _ _ rfl, ?_, ?_⟩); (exact E7.alloc zE7 _); (simp))
            | ((with_reducible refine ⟨_, rfl, Nat.le_refl _, rfl, nine_sets KB, nine_below E7 (Nat.le_refl _), ?_⟩); (simp only [size_set]; omega))
      case rest =>
        obtain ⟨g8, rfl, l8, rfl, K8, b7, m8⟩ := hcut
        rename World => v7
        clear hS0 hfi
        clear lt_T r_T0 r_T1 r_T2 r_T3 lt_I r_I0
        have HK8 := Lib.hid K8
        clear K8
        have f7 := bthen f6 b7
        have z7 := b7.size
        have H5_7 := Lib.hid (H5_6.out.below b7)
        have H6_7 := Lib.hid (H6_6.out.below b7)
        have HT_7 := Lib.hid (HT_6.out.below b7)
        have HR_7 := Lib.hid (HR_6.out.below b7)
        have HL_7 := Lib.hid (HL_6.out.below b7)
        have HS_7 := Lib.hid (HS_6.out.below b7)
        have HI_7 := Lib.hid (HI_6.out.below b7)
        clear H5_6 H6_6 HT_6 HR_6 HL_6 HS_6 HI_6
        have H8_7 := HK8
        clear HK8
        rcases HHIT.out with ⟨hh, hkf, hen⟩ | ⟨hh, hke⟩
        · subst hh
          have HEN := Lib.hid hen
          clear hen HHIT
          have lt_5 := H5_7.out.lt
          obtain ⟨r_50, r_51, r_52⟩ := bc3 H5_7.out
          have lt_8 := H8_7.out.lt
          obtain ⟨r_80, r_81, r_82, r_83, r_84, r_85, r_86, r_87, r_88⟩ := bc9 H8_7.out
          have z_52 := H5_7.out.frozen 2
          have hpk : entsP (fs.take k ++ [⟨ex, et, ec, es_, ek, ea, eb, eg, eh⟩]) := by rw [HEN.out, ← take_getD fs k hkf]; exact HRP.out.ok.take _
          have HPK := Lib.hid hpk
          have htk : fs.take (k + 1) = fs.take k ++ [⟨ex, et, ec, es_, ek, ea, eb, eg, eh⟩] := by rw [HEN.out]; exact take_getD fs k hkf
          have HTK := Lib.hid htk
          have hLR := HL_7.out.out
          clear hpk htk
          go_wp2_with (at_builtin; refine wpList_append_row2 rfl _ _ 46 rfl 76 (.agg #[.int .i64 0, .int .i64 0, .int .i64 0, .int .i64 0, .int .i64 0, .int .i64 0, .int .i64 0, .int .i64 0, .int .i64 0]) 9 72 Tryz.underlying46 info_EntryL (by first | kernel_rfl | simp [Value.cells]) (by decide) v3.heap.size L k c (EN (fs.take k)) rfl (hLR.alloc _) ⟨v7.heap.size, 0, none⟩ 1 1 [ex, et, ec, es_, ek, ea, eb, eg, eh] rfl rfl (cell_nine_at rfl) (by unfold maxLen; omega) (by omega) (by simp; omega) ?_; intro L8 c8 w8 R8 B8 W8 X8; have K58 : Blk w8 g5 48 #[.int .i64 0, .int .i64 0, .slice L k c] := ((H5_7.out.alloc _).wroteA W8 (fun a ha => by have := hLge.out a ha; omega)); have u50 := K58.cell 0; have u51 := K58.cell 1; have u52 := K58.cell 2; have u5f := K58.frozen 2; have u5l := K58.lt; have K68 : Blk w8 g6 43 #[.slice S mk d] := ((H6_7.out.alloc _).wroteA W8 (fun a ha => by have := hLge.out a ha; omega)); have u60 := K68.cell 0; have u6l := K68.lt; have K88 : Blk w8 g8 76 #[.int .i64 ex, .int .i64 et, .int .i64 ec, .int .i64 es_, .int .i64 ek, .int .i64 ea, .int .i64 eb, .int .i64 eg, .int .i64 eh] := ((H8_7.out.alloc _).wroteA W8 (fun a ha => by have := hLlt.out a ha; omega)); have u80 := K88.cell 0; have u81 := K88.cell 1; have u82 := K88.cell 2; have u83 := K88.cell 3; have u84 := K88.cell 4; have u85 := K88.cell 5; have u86 := K88.cell 6; have u87 := K88.cell 7; have u88 := K88.cell 8; have u8l := K88.lt)
          refine calls_named ?_
          rintro v8 hv8
          have z8 : v7.heap.size + 1 ≤ w8.heap.size := by have := B8.size; simpa using this
          have zz : v8.heap.size = w8.heap.size := by rw [hv8]; simp [size_set]
          have f8 : Below w.heap.size w v8 := by rw [hv8]; exact ((f7.alloc (by omega) _).trans (B8.mono (by omega))).setCell (p := ⟨g5, 2, none⟩) (show w.heap.size ≤ g5 by omega) _
          have Q5 : Hid (Blk v8 g5 48 #[.int .i64 0, .int .i64 0, .slice L8 (k + 1) c8]) := by rw [hv8]; exact Lib.hid (K58.set_ 2 _)
          have Q6 : Hid (Blk v8 g6 43 #[.slice S mk d]) := by rw [hv8]; exact Lib.hid (K68.far (p := ⟨g5, 2, none⟩) (by show g6 ≠ g5; omega) _)
          have QT : Hid (Blk v8 gT 42 #[.slice KA 22 cA, .slice WA 0 dA, .slice KB 22 cB, .slice WB 0 dB]) := by rw [hv8]; exact Lib.hid (((HT_7.out.alloc _).wroteA W8 (fun a ha => by have := hLge.out a ha; omega)).far (p := ⟨g5, 2, none⟩) (by show gT ≠ g5; omega) _)
          have QR : Hid (Blk v8 gR 48 #[.int .i64 0, .int .i64 0, .slice none 0 0]) := by rw [hv8]; exact Lib.hid (((HR_7.out.alloc _).wroteA W8 (fun a ha => by have := hLge.out a ha; omega)).far (p := ⟨g5, 2, none⟩) (by show gR ≠ g5; omega) _)
          have QS : Hid (Sl v8 3 S (markN (fs.take k)) (markL (fs.take k))) := by rw [hv8]; exact Lib.hid (((HS_7.out.alloc _).wrote W8 HTS.out.2.2.1).far (g := g5) HTS.out.1 2 _).out
          have QL : Hid (Row v8 v3.heap.size 76 9 L8 (k + 1) c8 (EN (fs.take (k + 1)))) := by
            rw [hv8, HTK.out, EN_append]
            exact Lib.hid (Row.far R8 (p := ⟨g5, 2, none⟩) (fun a ha => by have := R8.ge a ha; show a.block ≠ g5; omega) _)
          clear hv8 u50 u51 u52 u5f u5l u60 u6l u8l u80 u81 u82 u83 u84 u85 u86 u87 u88 K58 K68 K88 R8 B8 W8 X8
          have cm := marked_yes S d (fs.take k) ex et ec es_ ek ea eb eg eh v8 QS.out HPK.out
          rw [← HMK.out] at cm
          refine cm.mono ?_
          rintro e v9 ⟨S9, d9, rfl, R9, b9⟩
          clear cm
          have f9 := bthen f8 b9
          have z9 := b9.size
          have P5 := Lib.hid (Q5.out.below b9)
          have P6 := Lib.hid (Q6.out.below b9)
          have PT := Lib.hid (QT.out.below b9)
          have PR := Lib.hid (QR.out.below b9)
          have PL := Lib.hid (QL.out.below b9)
          have hL8 := Lib.hid QL.out.lt
          rw [← HTK.out] at R9
          have r6 := P6.out.cell 0
          have r6f := P6.out.frozen 0
          have r6l := P6.out.lt
          have HR9 := Lib.hid R9.on
          obtain ⟨m9, hm9⟩ : ∃ q, q = markN (fs.take (k + 1)) := ⟨_, rfl⟩
          have HM9 := Lib.hid hm9
          try rw [← hm9]
          try rw [← HTK.out]
          try rw [← hm9]
          clear b9 Q5 Q6 QT QR QS QL R9 hm9
          go_wp2_with fail
          go_roundg (9 - (k + 1))
          case measure => omega
          case rel =>
            unfold BIrel
            exact ⟨k + 1, L8, c8, S9, d9, Rg v8.heap.size v9.heap.size, rfl, by omega, Lib.hid (PL.out.far (p := ⟨g6, 0, none⟩) (fun a ha => by have := PL.out.ge a ha; show a.block ≠ g6; omega) _), Lib.hid (P5.out.far (p := ⟨g6, 0, none⟩) (by show g5 ≠ g6; omega) _), Lib.hid (by first | exact P6.out.set_ 0 _ | (rw [← HM9.out]; exact P6.out.set_ 0 _)), Lib.hid ((HR9.out.map (fun v hv => hv.sl)).far (g := g6) (Rg.no (by omega)) 0 _), Lib.hid ⟨Rg.no (by omega), Rg.no (by omega), fun a ha => Rg.no (.inl (hL8.out a ha)), fun b hb => by have := hb.2; simp only [size_set]; omega⟩, Lib.hid (PT.out.far (p := ⟨g6, 0, none⟩) (by show gT ≠ g6; omega) _), Lib.hid (PR.out.far (p := ⟨g6, 0, none⟩) (by show gR ≠ g6; omega) _), Lib.hid (f9.setCell (p := ⟨g6, 0, none⟩) (show w.heap.size ≤ g6 by omega) _), by simp only [size_set]; omega⟩
        · subst hh
          have HKE := Lib.hid hke
          clear hke HHIT
          have lt_5 := H5_7.out.lt
          obtain ⟨r_50, r_51, r_52⟩ := bc3 H5_7.out
          have lt_R := HR_7.out.lt
          obtain ⟨r_R0, r_R1, r_R2⟩ := bc3 HR_7.out
          obtain ⟨z_R0, z_R1, z_R2⟩ := bf3 HR_7.out
          go_wp21
          refine bodyPost_ret (v := .agg #[.int .i64 0, .int .i64 0, .slice L k c]) (by simp [results, Tryz.results82, go_sem, *]) rfl ?_
          have hLR := HL_7.out.out
          rw [show fs.take k = fs by rw [HKE.out]; exact List.take_length] at hLR
          refine ⟨L, c, by rw [HKE.out], ?_, (((f7).setCell (p := ⟨gR, 0, none⟩) (show w.heap.size ≤ gR by omega) _).setCell (p := ⟨gR, 1, none⟩) (show w.heap.size ≤ gR by omega) _).setCell (p := ⟨gR, 2, none⟩) (show w.heap.size ≤ gR by omega) _⟩
          rw [← HKE.out]
          exact Row.mono (((hLR.far (p := ⟨gR, 0, none⟩) (fun a ha => by have := hLge.out a ha; show a.block ≠ gR; omega) _).far (p := ⟨gR, 1, none⟩) (fun a ha => by have := hLge.out a ha; show a.block ≠ gR; omega) _).far (p := ⟨gR, 2, none⟩) (fun a ha => by have := hLge.out a ha; show a.block ≠ gR; omega) _) (by omega)
end Go.Proofs.YtbheflinchabgaaGreatDoor
namespace Go.Proofs.YtbheflinchabgaaGreatDoor
set_option linter.unusedSimpArgs false
set_option linter.unusedVariables false
attribute [local go_sem] n_lt2 n_lt3 n_lt4 n_le2 n_le3
open Go.RowKit
section
variable {P : Program} {ops : Array Oper} {Q : Exit → Act → World → Prop} {md : Region.Mode} {l n : Nat}
theorem rowsIn_round {row : String} {args : Array Value} {w : World} {R : Value → World → Prop} (h : Rows P row args w R) : RowsIn (Fence.wide.inRound l) n P row args w R :=
  fun c cs _ => let ⟨v, w', r, s⟩ := h c cs; ⟨v, w', r, stepsIn_wide.2 s⟩
theorem callsIn_round {f : FuncId} {args : Array Value} {w : World} {R : Ending → World → Prop} (h : Calls P f args w R) : CallsIn (Fence.wide.inRound l) n P f args w R := CallsIn.inRound l (callsIn_wide.2 h)
theorem oper_round {o : Oper} {a : Act} {w : World} {K : Act → World → Prop} (hnd : ∀ c, o.op ≠ .defer c) (h : o.wp P a w K Q) : o.wpIn (Fence.wide.inRound l) n P a w K Q := by
  unfold Oper.wpIn
  refine ⟨fun _ _ => trivial, ?_⟩
  rw [Oper.semAt_eq _ _ _ hnd]
  unfold Oper.wp at h
  generalize (execOp a.eval o).run P w = r at *
  cases r with
  | ok m w' =>
    cases m with
    | value v => exact h
    | skip => exact h
    | defer d => exact h
    | enter f args => exact ⟨fun hd => (by cases hd), callsIn_round h⟩
    | row row args => exact ⟨fun hd => (by cases hd), rowsIn_round h⟩
    | _ => exact h.elim
  | halt x w' => cases x <;> first | exact h | exact h.elim
theorem wpAny_round (hnd : ∀ (j : Nat) (o : Oper), ops[j]? = some o → ∀ c, o.op ≠ .defer c) (hno : ¬ LetsOut Q) :
    ∀ (fuel : Nat) (listed : Array Bool) (a : Act) (w : World), wpAny P md ops Q fuel listed a w → wpAnyIn (Fence.wide.inRound l) n P md ops Q fuel listed a w
  | 0, _, _, _, h => h
  | fuel + 1, listed, a, w, h => ⟨h.1, fun i hi => by
    have h1 := wpOp_mono (fun a' w' h' => wpAny_round hnd hno fuel (listed.setIfInBounds i true) a' w' h') (h.2 i hi)
    unfold wpOp at h1
    unfold wpOpIn
    cases ho : ops[i]? with
    | none => simpa [ho] using h1
    | some o =>
      simp only [ho] at h1 ⊢
      split
      · rename_i hw
        simp only [hw, if_true] at h1
        rcases h1 with h1 | h1
        · exact oper_round (hnd i o ho) h1
        · exact absurd h1.2 hno
      · rename_i hw
        simp only [hw] at h1
        exact ⟨fun _ _ => trivial, h1⟩⟩
def noDefer (ops : Array Oper) : Bool := ops.toList.all fun o => match o.op with | .defer _ => false | _ => true
theorem noDefer_spec (h : noDefer ops = true) : ∀ (j : Nat) (o : Oper), ops[j]? = some o → ∀ c, o.op ≠ .defer c := fun j o hj c hc => by
  unfold noDefer at h
  rw [List.all_eq_true] at h
  have := h o (by rw [← Array.getElem?_toList] at hj; exact List.mem_of_getElem? hj)
  rw [hc] at this
  cases this
theorem region_round0 {id : Nat} {a : Act} {w : World} (hm : P.follows .mixedOrders = true) (hnd : noDefer ops = true) (hno : ¬ LetsOut Q)
    (h : wpAny P .any ops Q ops.size (Array.replicate ops.size false) a w.drew) : (Code.region id ops true).wpIn (Fence.wide.inRound l) n P Q a w :=
  wpIn_region_any hm (wpAny_round (noDefer_spec hnd) hno _ _ _ _ h)
end
theorem keepsFrom_below {B : Nat} {W W' : World} (h : Below W.heap.size W W') : KeepsFrom B W W' := ⟨h.size, fun k o _ hk _ => (h.block k (Array.getElem?_eq_some_iff.1 hk).1).trans hk⟩
theorem blk_ownFrom {β : Type} (B g e : Nat) (cs : Array Value) : OwnFrom B (fun (_ : β) W => Blk W g e cs) := fun _ X Y row hs hg hr => by
  refine (hg.block g (Blk.lt hs) (fun e' => ?_)).trans hs
  obtain ⟨o, ho, hc⟩ := (hr g e'.symm).2
  rw [show X.heap[g]? = _ from hs] at ho
  cases ho
  cases hc
end Go.Proofs.YtbheflinchabgaaGreatDoor
namespace Go.Proofs.YtbheflinchabgaaGreatDoor
set_option linter.unusedSimpArgs false
set_option linter.unusedVariables false
attribute [local go_sem] n_lt2 n_lt3 n_lt4 n_le2 n_le3
open Go.RowKit
attribute [local go_sem] Ext.cell Ext.frozen
theorem slTake {w : World} {s n : Nat} {A : Option Addr} {zs : List Int} (h : Sl w s A n zs) (k : Nat) (hk : k ≤ n) : Sl w s A k (zs.take (k * s)) := by
  have hl := h.len
  have h3 : k * s ≤ n * s := Nat.mul_le_mul_right _ hk
  refine ⟨by rw [List.length_take]; omega, fun hn => ?_⟩
  obtain ⟨b, off, hA, hb, hc⟩ := h.2 (by omega)
  refine ⟨b, off, hA, hb, fun j hj => ?_⟩
  rw [hc j (by omega)]
  congr 2
  simp [List.getD, List.getElem?_take, hj]
set_option maxRecDepth 100000 in
set_option maxHeartbeats 4000000 in
theorem heldIn_yes (KA : Option Addr) (cA : Nat) (WA : Option Addr) (dA : Nat) (KB : Option Addr) (cB : Nat) (WB : Option Addr) (dB : Nat) (H : Option Addr) (hc : Nat) (X : Option Addr) (xc : Nat) (L : Option Addr) (lc : Nat) (S : Option Addr) (sc : Nat) (O : Option Addr) (oc : Nat) (m n ns no D : Nat) (es : List En) (w : World) (hL : Sl w 9 L n (EN es)) (hn : n = es.length) (hn8 : n ≤ 1000) (hD : D ≤ n) (hl : n ≤ lc ∧ lc ≤ maxLen) :
    Calls Tryz.prog 46 #[.agg #[.slice KA 22 cA, .slice WA m dA, .slice KB 22 cB, .slice WB m dB, .int .i64 0, .int .i64 0, .int .i64 0, .slice H 0 hc, .int .i64 0, .int .i64 0, .int .i64 0, .slice X 0 xc, .bool false, .int .i64 0, .int .i64 0, .slice L n lc, .slice S ns sc, .int .i64 (D : Nat), .slice O no oc]] w (RetRow w 76 9 D (EN (es.take D))) := by
  have hT : Sl w 9 L D (EN (es.take D)) := by rw [EN_take]; exact slTake hL D hD
  have HIT : Hid (On (Rg 0 w.heap.size) (fun x => Sl x 9 L D (EN (es.take D))) w) := Lib.hid (On.below_of (fun _ hb => (hT).below hb))
  clear hT
  clear hL hn
  have hsl : ∀ wz : World, (Instr.slice 46 (.slice L n lc) none (some (.int .i64 (D : Nat))) none).run Tryz.prog wz = .ok (.slice L D lc) wz := fun wz => by
    have h1 := hl.1
    have h2 : (D : Int) ≤ (lc : Int) := by omega
    go_simp
  go_enter Tryz.func46, Tryz.ntmps46
  go_upto_region 1 with fail
  obtain ⟨v0, hv0⟩ : ∃ x : World, x = (w.alloc (.cells #[.slice KA 22 cA, .slice WA m dA, .slice KB 22 cB, .slice WB m dB, .int .i64 0, .int .i64 0, .int .i64 0, .slice H 0 hc, .int .i64 0, .int .i64 0, .int .i64 0, .slice X 0 xc, .bool false, .int .i64 0, .int .i64 0, .slice L n lc, .slice S ns sc, .int .i64 (D : Nat), .slice O no oc] 51)) := ⟨_, rfl⟩
  rw [← hv0]
  have f0 : Below w.heap.size w v0 := by rw [hv0]; (repeat' (first | (with_reducible exact Below.refl _ _) | (with_reducible assumption) | (with_reducible refine Below.alloc ?_ ?_ _) | (with_reducible refine Below.drew ?_) | (with_reducible refine Below.setCell ?_ ?_ _) | (with_reducible refine bstep (by assumption) ?_ ?_) | (with_reducible exact Nat.le_refl _) | omega | (simp [*]; done) | (simp [*]; omega)))
  have z0 : w.heap.size + 1 ≤ v0.heap.size := by rw [hv0]; simp [size_set]
  have HN_0 : Hid (Blk v0 w.heap.size 51 #[.slice KA 22 cA, .slice WA m dA, .slice KB 22 cB, .slice WB m dB, .int .i64 0, .int .i64 0, .int .i64 0, .slice H 0 hc, .int .i64 0, .int .i64 0, .int .i64 0, .slice X 0 xc, .bool false, .int .i64 0, .int .i64 0, .slice L n lc, .slice S ns sc, .int .i64 (D : Nat), .slice O no oc]) := by rw [hv0]; exact Lib.hid ((Blk.new_at _ _ _ _ (by simp [size_set])))
  clear hv0
  obtain ⟨gN, hgN⟩ : ∃ q, q = w.heap.size := ⟨_, rfl⟩
  rw [← hgN] at HN_0
  try rw [← hgN]
  have lgN : w.heap.size ≤ gN := by omega
  have mgN : gN < v0.heap.size := by omega
  have ngN : ∀ k, w.heap.size ≤ k → k ≠ gN → True := fun _ _ _ => trivial
  clear ngN
  clear hgN
  have lt_N := HN_0.out.lt
  obtain ⟨r_N0, r_N1, r_N2, r_N3, r_N4, r_N5, r_N6, r_N7, r_N8, r_N9, r_N10, r_N11, r_N12, r_N13, r_N14, r_N15, r_N16, r_N17, r_N18⟩ := bc19 HN_0.out
  have hT0 := Lib.hid ((HIT.out).inB f0 (fun _ hk => hk.2)).out
  go_wp2_with (at_builtin; refine wpList_append_copy rfl _ _ 46 rfl 76 _ 9 72 Tryz.underlying46 info_EntryL (by first | kernel_rfl | simp [Value.cells]) (by decide) v0.heap.size rfl w.heap.size L D lc (EN (es.take D)) rfl (by unfold maxLen; omega) (by omega) (Blk.new_at _ _ _ _ rfl) (by omega) (hT0.out.alloc _) ?_; intro A5 c5 w5 R5 B5 L5 O5)
  go_ret
  exact RetRow.mk R5 (bthen (bthen f0 ((Below.refl v0.heap.size v0).alloc (Nat.le_refl _) _)) B5)
theorem row0d {w : World} {g lo : Nat} {E s : Nat} (h : Blk w g E #[]) (hlo : lo ≤ g) : Row w lo E s (some ⟨g, 0, none⟩) 0 0 [] :=
  Blk.row h hlo (by unfold maxLen; omega) (by simp) (by simp) (by intro j hj; omega)
theorem bthen' {l : Nat} {a b c : World} (h : Below l a b) (k : Below l b c) : Below l a c := h.trans k
theorem EN_snoc9 (l : List En) (k : Nat) (h : k < l.length) : EN (l.take k) ++ [(l.getD k default).x, (l.getD k default).t, (l.getD k default).c, (l.getD k default).s, (l.getD k default).k, (l.getD k default).a, (l.getD k default).b, (l.getD k default).g, (l.getD k default).h] = EN (l.take (k + 1)) := by
  rw [take_getD l k h, EN_append]
  rfl
set_option maxRecDepth 100000 in
set_option maxHeartbeats 4000000 in
theorem entriesOf_four (L : Option Addr) (n c : Nat) (es : List En) (w : World) (hL : Sl w 9 L n (EN es)) (h : entsP es) (hn : es.length = n) : Calls Tryz.prog 17 #[.slice L n c, .int .i64 4] w (RetRow w 76 9 n (EN es)) := by
  have hn8 : n ≤ 8 := by have := h.1; omega
  have HP := Lib.hid h
  have HN := Lib.hid hn
  have HIL : Hid (On (Rg 0 w.heap.size) (fun x => Sl x 9 L n (EN es)) w) := Lib.hid (On.below_of (fun _ hb => (hL).below hb))
  have hc := entriesOk_yes L n c es w hL h hn
  clear hL h hn
  go_enter Tryz.func17, Tryz.ntmps17
  go_wp2_with fail
  refine hc.mono ?_
  rintro e v0 ⟨rfl, f0⟩
  clear hc
  go_wp2_with fail
  have R0 : Row (v0.alloc (.cells #[] 76)) w.heap.size 76 9 (some ⟨v0.heap.size, 0, none⟩) 0 0 (EN (es.take 0)) := row0d (Blk.new v0 _ _) f0.size
  have z0 := f0.size
  go_loopw [5, 14] (fun sv iv wr => ∃ (k : Nat) (A : Option Addr) (cA : Nat), k ≤ n ∧ iv = .int .i64 (k : Nat) ∧ sv = .slice A k cA ∧ Hid (Row wr w.heap.size 76 9 A k cA (EN (es.take k))) ∧ Hid (Below w.heap.size w wr)) (fun _ iv _ => n - (intOf iv).toNat)
  case atStart => exact ⟨0, _, 0, Nat.zero_le _, rfl, rfl, Lib.hid R0, Lib.hid (f0.alloc z0 _)⟩
  case round =>
    clear R0 f0
    obtain ⟨k, A, cA, hk, rfl, rfl, HR, HF⟩ := hrel
    have hz := HF.out.size
    by_cases hlt : k < n
    · have hlt' : (k : Int) < (n : Int) := by omega
      have hSl := (HIL.out.inB HF.out (fun _ hk => hk.2)).out
      obtain ⟨bL, oL, rfl, hbL, q0, q1, q2, q3, q4, q5, q6, q7, q8⟩ := ent_cells hSl HN.out hlt
      have hec := (HP.out.2.1 k (by rw [HN.out]; exact hlt)).2.1
      have hsn := Lib.hid (EN_snoc9 es k (by rw [HN.out]; exact hlt))
      obtain ⟨en, hen⟩ : ∃ q, q = es.getD k default := ⟨_, rfl⟩
      rw [← hen] at q0 q1 q2 q3 q4 q5 q6 q7 q8 hec hsn
      obtain ⟨ex, et, ec, es_, ek, ea, eb, eg, eh⟩ := en
      simp only at q0 q1 q2 q3 q4 q5 q6 q7 q8 hec hsn
      subst hec
      clear hen hSl
      obtain ⟨v1, hv1⟩ : ∃ x, x = wr := ⟨_, rfl⟩
      rw [← hv1] at HR HF hz hbL q0 q1 q2 q3 q4 q5 q6 q7 q8 ⊢
      clear hv1
      go_upto_region 8 with fail
      obtain ⟨v2, hv2⟩ : ∃ x : World, x = v1.alloc (.cells #[.int .i64 ex, .int .i64 et, .int .i64 4, .int .i64 es_, .int .i64 ek, .int .i64 ea, .int .i64 eb, .int .i64 eg, .int .i64 eh] 76) := ⟨_, rfl⟩
      rw [← hv2]
      have HE : Hid (Blk v2 v1.heap.size 76 #[.int .i64 ex, .int .i64 et, .int .i64 4, .int .i64 es_, .int .i64 ek, .int .i64 ea, .int .i64 eb, .int .i64 eg, .int .i64 eh]) := by rw [hv2]; exact Lib.hid (Blk.new v1 _ _)
      have b2 : Below v1.heap.size v1 v2 := by rw [hv2]; exact (Below.refl _ _).alloc (Nat.le_refl _) _
      have z2 := b2.size
      clear hv2 q0 q1 q2 q3 q4 q5 q6 q7 q8 hbL
      obtain ⟨gE, hgE⟩ : ∃ q, q = v1.heap.size := ⟨_, rfl⟩
      rw [← hgE] at HE
      try rw [← hgE]
      clear hgE
      have HR2 := Lib.hid (HR.out.below b2)
      have HF2 := Lib.hid (bthen HF.out b2)
      clear HR HF
      have r0 := HE.out.cell 0
      have r1 := HE.out.cell 1
      have r2 := HE.out.cell 2
      have r3 := HE.out.cell 3
      have r4 := HE.out.cell 4
      have r5 := HE.out.cell 5
      have r6 := HE.out.cell 6
      have r7 := HE.out.cell 7
      have r8 := HE.out.cell 8
      have ltE := HE.out.lt
      go_wp2_with (at_builtin; refine wpList_append_row rfl _ _ 46 rfl 76 (.agg #[.int .i64 0, .int .i64 0, .int .i64 0, .int .i64 0, .int .i64 0, .int .i64 0, .int .i64 0, .int .i64 0, .int .i64 0]) 9 72 Tryz.underlying46 info_EntryL (by first | kernel_rfl | simp [Value.cells]) (by decide) w.heap.size A k cA (EN (es.take k)) rfl (HR2.out.alloc _) ⟨v2.heap.size, 0, none⟩ 1 1 [ex, et, 4, es_, ek, ea, eb, eg, eh] rfl rfl (cell_nine_at rfl) (by unfold maxLen; omega) (by omega) (by simp; omega) ?_; intro A5 c5 w5 R5 B5)
      refine ⟨⟨k + 1, A5, c5, by omega, by go_num, rfl, Lib.hid (by rw [← hsn.out]; exact R5), Lib.hid (bthen' (HF2.out.alloc (by omega) _) B5)⟩, by simp [intOf]; omega⟩
    · have hkn : k = n := by omega
      have hnl : ¬ ((k : Int) < (n : Int)) := by omega
      go_wp2_with fail
      go_ret
      subst hkn
      have e := HR.out
      rw [← HN.out, List.take_length, HN.out] at e
      exact RetRow.mk e HF.out
/-- Six fates. -/
def RetFates (w : World) (p : Nat) (e : Ending) (w' : World) : Prop := ∃ A c zs, e = .returned (.slice A 6 c) ∧ Row w' w.heap.size 2 1 A 6 c zs ∧ DC w' p 80 ∧ Wrote w w' (some ⟨p, 0, none⟩)
theorem info_IntT : (Tryz.prog.info? 2).map (fun i => (i.zero, i.size, i.bytes)) = some (some (.int .i64 0), 1, 8) := by kernel_rfl
set_option maxRecDepth 100000 in
set_option maxHeartbeats 4000000 in
theorem w9Fates_any (p : Nat) (w : World) (hD : DC w p 80) : Calls Tryz.prog 14 #[.pointer (some ⟨p, 0, none⟩), .int .i64 6] w (RetFates w p) := by
  have HD := Lib.hid hD
  have hp := hD.lt
  clear hD
  have R0 : Row (w.alloc (.cells #[] 2)) w.heap.size 2 1 (some ⟨w.heap.size, 0, none⟩) 0 0 [] := row0d (Blk.new w _ _) (Nat.le_refl _)
  go_enter Tryz.func14, Tryz.ntmps14
  go_wp2_with fail
  go_loopw [1, 5] (fun mv lv wr => ∃ (j : Nat) (A : Option Addr) (n c : Nat) (zs : List Int), n + j = 6 ∧ mv = .int .i64 (j : Nat) ∧ lv = .slice A n c ∧ Hid (Row wr w.heap.size 2 1 A n c zs) ∧ Hid (DC wr p 80) ∧ Hid (Wrote w wr (some ⟨p, 0, none⟩))) (fun mv _ _ => (intOf mv).toNat)
  case atStart => exact ⟨6, _, 0, 0, [], by omega, rfl, rfl, Lib.hid R0, Lib.hid (HD.out.new (by (repeat' (first | (with_reducible exact Below.refl _ _) | (with_reducible assumption) | (with_reducible refine Below.alloc ?_ ?_ _) | (with_reducible refine Below.drew ?_) | (with_reducible refine Below.setCell ?_ ?_ _) | (with_reducible refine bstep (by assumption) ?_ ?_) | (with_reducible exact Nat.le_refl _) | omega | (simp [*]; done) | (simp [*]; omega))))), Lib.hid (wrote_below (by (repeat' (first | (with_reducible exact Below.refl _ _) | (with_reducible assumption) | (with_reducible refine Below.alloc ?_ ?_ _) | (with_reducible refine Below.drew ?_) | (with_reducible refine Below.setCell ?_ ?_ _) | (with_reducible refine bstep (by assumption) ?_ ?_) | (with_reducible exact Nat.le_refl _) | omega | (simp [*]; done) | (simp [*]; omega)))) _)⟩
  case round =>
    clear R0
    obtain ⟨j, A, n, c, zs, hj, rfl, rfl, HR, HL, HW⟩ := hrel
    have hz := HW.out.size
    by_cases hlt : 0 < j
    · have hj0 : (0 : Int) < (j : Int) := by omega
      have hj6 : (j : Int) ≤ 6 := by omega
      go_wp2_with fail
      refine (below_dc p 3 wr HL.out (by omega)).mono ?_
      rintro e w1 ⟨x, rfl, ⟨x0, x1⟩, L1, W1⟩
      have HR1 := Lib.hid (rowd HR.out W1 hp)
      have HW1 := Lib.hid (wrote_trans HW.out W1)
      have hz1 := W1.size
      have HL1 := Lib.hid L1
      clear HR HL HW W1 L1
      have HH := Lib.hid (And.intro (HL1.out.new ((Below.refl w1.heap.size w1).alloc (Nat.le_refl _) (.cells #[.int .i64 x] 2))) (wrote_grow HW1.out ((Below.refl w1.heap.size w1).alloc (Nat.le_refl _) (.cells #[.int .i64 x] 2)) HW1.out.size))
      go_wp2_with (at_builtin; refine wpList_append_row rfl _ _ 59 rfl 2 (.int .i64 0) 1 8 Tryz.underlying59 info_IntT (by first | kernel_rfl | simp [Value.cells]) (by decide) w.heap.size A n c zs rfl (HR1.out.alloc _) ⟨w1.heap.size, 0, none⟩ 1 1 [x] rfl rfl (cell_one_at _ _ _) (by unfold maxLen; omega) (by omega) (by simp; omega) ?_; intro A5 c5 w5 R5 B5)
      exact ⟨⟨j - 1, A5, n + 1, c5, zs ++ [x], by omega, by go_num, rfl, Lib.hid R5, Lib.hid (HH.out.1.below B5 hp), Lib.hid (wrote_grow HH.out.2 B5 (Nat.le_refl _))⟩, by simp [intOf]; omega⟩
    · have hj0 : ¬ (0 : Int) < (j : Int) := by omega
      have hn6 : n = 6 := by omega
      subst hn6
      go_wp2_with fail
      go_ret
      exact ⟨A, c, zs, rfl, HR.out, HL.out, HW.out⟩
set_option maxHeartbeats 2000000 in
theorem errorsAs_nil (v : Value) (w : World) : Calls Tryz.prog 34 #[.nilIface, v] w fun e w' => e = .returned (.bool false) ∧ Below w.heap.size w w' := by
  go_enter Tryz.func34, Tryz.ntmps34
  go_wp2_with fail
  go_ret
  exact ⟨rfl, Below.refl _ _⟩
end Go.Proofs.YtbheflinchabgaaGreatDoor
namespace Go.Proofs.YtbheflinchabgaaGreatDoor
set_option linter.unusedSimpArgs false
set_option linter.unusedVariables false
attribute [local go_sem] n_lt2 n_lt3 n_lt4 n_le2 n_le3
open Go.RowKit Go.Shelf
attribute [local go_sem] Ext.cell Ext.frozen Oper.semAt_some
theorem entriesFrom_any (L : Option Addr) (m c : Nat) (f : Int) (w : World) : Calls Tryz.prog 105 #[.agg #[.int .i64 0, .int .i64 0, .slice L m c], .int .i64 f] w fun e w' =>
    e = .returned (.func (.func 124) #[] #[.pointer (some ⟨w.heap.size, 0, none⟩), .pointer (some ⟨w.heap.size + 1, 0, none⟩)]) ∧ w' = (w.alloc (.cells #[.int .i64 0, .int .i64 0, .slice L m c] 48)).alloc (.cells #[.int .i64 f] 2) := by
  go_enter Tryz.func105, Tryz.ntmps105
  go_wp2
  go_ret
  exact ⟨rfl, rfl⟩
set_option maxRecDepth 100000 in
set_option maxHeartbeats 4000000 in
theorem entries1_in (n l : Nat) (S : Nat → Prop) (bk bf : Nat) (L : Option Addr) (m c D : Nat) (es : List En) (J Jx : List Unit → World → Prop) (W : World) (hJ : AbidesFrom W.heap.size J) (h : entsP es) (hm : es.length = m) (hD : m ≤ D + 1)
    (hY : ∀ pre x W1, J pre W1 → pre.length < m - D → YieldAt Fence.wide (n - 1) Tryz.prog l #[enV (es.getD D default)] W1 fun e W' => (e = .returned (.bool true) ∧ J (pre ++ [x]) W' ∧ Agr S W1 W') ∨ (e = .returned (.bool false) ∧ Jx (pre ++ [x]) W'))
    (hc : W.cell? ⟨bk, 2, none⟩ = some (.slice L m c)) (hO : On S (fun x => Sl x 9 L m (EN es) ∧ x.cell? ⟨bf, 0, none⟩ = some (.int .i64 ((D : Int) + 1))) W) (h0 : J [] W) :
    CallsIn Fence.wide n Tryz.prog 124 #[.func (.yield l) #[] #[], .pointer (some ⟨bk, 0, none⟩), .pointer (some ⟨bf, 0, none⟩)] W fun e W' => (∃ v, e = .returned v) ∧
      ((∃ ys, ys = List.replicate (m - D) () ∧ J ys W') ∨ (∃ pre, pre <+: List.replicate (m - D) () ∧ Jx pre W')) := by
  have hm8 : m ≤ 8 := by have := h.1; omega
  have HP := Lib.hid h
  have HM := Lib.hid hm
  have HO := Lib.hid hO
  clear h hm hO
  refine callsIn_of_wp Tryz.func124 rfl trivial ?_ rfl
  simp only [Tryz.ntmps124, List.size_toArray, List.length_cons, List.length_nil, Nat.reduceAdd, Nat.reduceSub, Array.replicate_succ, Array.replicate_zero, List.push_toArray, List.append_toArray, List.nil_append, List.cons_append]
  gi_wp2
  gi_loopw [9] (fun iv wr => ∃ (k : Nat), k ≤ m ∧ iv = .int .i64 (k : Nat) ∧ J (List.replicate (k - D) ()) wr ∧ Hid (On S (fun x => Sl x 9 L m (EN es) ∧ x.cell? ⟨bf, 0, none⟩ = some (.int .i64 ((D : Int) + 1))) wr)) (fun iv _ => m - (intOf iv).toNat)
  case atStart => exact ⟨0, Nat.zero_le _, rfl, by rw [Nat.zero_sub]; exact h0, HO⟩
  case round =>
    clear HO h0 hc
    obtain ⟨k, hk, rfl, hJs, HO⟩ := hrel
    by_cases hlt : k < m
    · have hlt' : (k : Int) < (m : Int) := by omega
      obtain ⟨bL, oL, rfl, hbL, q0, q1, q2, q3, q4, q5, q6, q7, q8⟩ := ent_cells HO.out.out.1 HM.out hlt
      have hf := HO.out.out.2
      have hx := (HP.out.2.1 k (by rw [HM.out]; exact hlt)).1
      obtain ⟨en, hen⟩ : ∃ q, q = es.getD k default := ⟨_, rfl⟩
      rw [← hen] at q0 q1 q2 q3 q4 q5 q6 q7 q8 hx
      have HEN := Lib.hid hen
      clear hen
      obtain ⟨ex, et, ec, es_, ek, ea, eb, eg, eh⟩ := en
      simp only at q0 q1 q2 q3 q4 q5 q6 q7 q8 hx
      subst hx
      have hJ1 := hJ _ _ (wr.alloc (.cells #[.int .i64 ((k : Int) + 1), .int .i64 et, .int .i64 ec, .int .i64 es_, .int .i64 ek, .int .i64 ea, .int .i64 eb, .int .i64 eg, .int .i64 eh] 76)) none hJs (World.grownBy_alloc wr _ none) (fun r e => by cases e)
      have HO1 := Lib.hid (HO.out.alloc (.cells #[.int .i64 ((k : Int) + 1), .int .i64 et, .int .i64 ec, .int .i64 es_, .int .i64 ek, .int .i64 ea, .int .i64 eb, .int .i64 eg, .int .i64 eh] 76))
      have hf1 := HO1.out.out.2
      by_cases hkD : k < D
      · have hnge : ¬ (D : Int) + 1 ≤ (k : Int) + 1 := by omega
        gi_wp2
        refine ⟨fun _ h => (by cases h), ?_⟩
        gi_wp2
        go_roundw
        case rel => exact ⟨k + 1, by omega, by go_num, by rw [show k + 1 - D = k - D by omega]; exact hJ1, HO1⟩
        case measure => simp [intOf]; omega
      · have hge : (D : Int) + 1 ≤ (k : Int) + 1 := by omega
        have hkd : k = D := by omega
        rw [show List.replicate (k - D) () = [] by rw [show k - D = 0 by omega]; rfl] at hJ1
        obtain ⟨fn, tmps, assign, body, hy, hR⟩ := hY [] () _ hJ1 (by simp; omega)
        rw [← hkd, ← HEN.out] at hy
        have HKD := Lib.hid hkd
        clear hkd
        simp only [enV] at hy
        gi_wp2
        refine ⟨fun h => (by cases h), ?_⟩
        refine hR.mono ?_
        rintro e W3 (⟨rfl, hJ3, hk3⟩ | ⟨rfl, hJx3⟩)
        · have HO3 := Lib.hid (HO1.out.agr hk3)
          gi_wp2
          go_roundw
          case rel => exact ⟨k + 1, by omega, by go_num, by rw [show k + 1 - D = 1 by have := HKD.out; omega]; exact hJ3, HO3⟩
          case measure => simp [intOf]; omega
        · gi_wp2
          refine bodyPost_ret (results_none rfl _ _ _) rfl ?_
          exact ⟨⟨_, rfl⟩, .inr ⟨[()], by rw [show m - D = 1 by have := HKD.out; omega]; exact ⟨[], rfl⟩, hJx3⟩⟩
    · have hnl : ¬ (k : Int) < (m : Int) := by omega
      have hkm : k = m := by omega
      subst hkm
      gi_wp2
      go_end0
      exact ⟨⟨_, rfl⟩, .inl hJs⟩
theorem dr1 {W v : World} (b : Below W.drew.heap.size W.drew v) : Below W.heap.size W v := ⟨b.os, b.tape, b.output, b.size, b.block⟩
theorem info_AckV : (Tryz.prog.info? 71).map (fun i => (i.zero, i.size, i.bytes)) = some (some (.agg #[.int .i64 0, .int .i64 0, .int .i64 0, .int .i64 0]), 4, 32) := by kernel_rfl
theorem cell_four_ack {w : World} {x0 x1 x2 x3 : Int} {t : TypeId} {g : Nat} (hg : w.heap.size = g) : ∀ j u, (ints [x0, x1, x2, x3])[j]? = some u → (w.alloc (.cells #[.int .i64 x0, .int .i64 x1, .int .i64 x2, .int .i64 x3] t)).cell? ((⟨g, 0, none⟩ : Addr).add j) = some u := by
  subst hg
  intro j u hj
  match j, hj with
  | 0, hj => simp [ints] at hj; subst hj; simp [Addr.add]
  | 1, hj => simp [ints] at hj; subst hj; simp [Addr.add]
  | 2, hj => simp [ints] at hj; subst hj; simp [Addr.add]
  | 3, hj => simp [ints] at hj; subst hj; simp [Addr.add]
set_option maxRecDepth 100000 in
set_option maxHeartbeats 4000000 in
theorem owed_yes (L : Option Addr) (m c D : Nat) (es : List En) (w : World) (hL : Sl w 9 L m (EN es)) (h : entsP es) (hm : es.length = m) (hD : m ≤ D + 1) (hDm : D ≤ m) :
    Calls Tryz.prog 62 #[.agg #[.int .i64 0, .int .i64 0, .slice L m c], .int .i64 (D : Nat)] w (RetRow w 71 4 (oweN es D) (oweL es D)) := by
  have hm8 : m ≤ 8 := by have := h.1; omega
  have hD8 : (D : Int) ≤ 8 := by omega
  have hDp : (0 : Int) ≤ (D : Int) := by omega
  have HP := Lib.hid h
  have HM := Lib.hid hm
  have HL := Lib.hid hL
  clear h hm hL
  refine (callsIn_wide (n := 6)).1 ?_
  refine callsIn_of_wp_marks Tryz.func62 rfl trivial ?_ rfl
  simp only [Tryz.ntmps62, List.size_toArray, List.length_cons, List.length_nil, Nat.reduceAdd, Nat.reduceSub, Array.replicate_succ, Array.replicate_zero, List.push_toArray, List.append_toArray, List.nil_append, List.cons_append]
  gi_wp2_with (refine ⟨trivial, ?_⟩; gi_at_call 105; refine (callsIn_wide.2 (entriesFrom_any L m c ((D : Int) + 1) _)).mono ?_; rintro e w' ⟨rfl, rfl⟩)
  obtain ⟨W0, hW0⟩ : ∃ x, x = (((((w.alloc (.cells #[.int .i64 0, .int .i64 0, .slice L m c] 48)).alloc (.cells #[] 71)).alloc (.cells #[.slice (some ⟨w.heap.size + 1, 0, none⟩) 0 0] 49)).alloc (.cells #[.int .i64 0, .int .i64 0, .slice L m c] 48)).alloc (.cells #[.int .i64 ((D : Int) + 1)] 2)) := ⟨_, rfl⟩
  rw [← hW0]
  have hz : W0.heap.size = w.heap.size + 1 + 1 + 1 + 1 + 1 := by rw [hW0]; simp
  have hB0 : Below w.heap.size w W0 := by rw [hW0]; (repeat' (first | (with_reducible exact Below.refl _ _) | (with_reducible assumption) | (with_reducible refine Below.alloc ?_ ?_ _) | (with_reducible refine Below.drew ?_) | (with_reducible refine Below.setCell ?_ ?_ _) | (with_reducible refine bstep (by assumption) ?_ ?_) | (with_reducible exact Nat.le_refl _) | omega | (simp [*]; done) | (simp [*]; omega)))
  have bS : Boxed W0 (w.heap.size + 1 + 1) 49 (.slice (some ⟨w.heap.size + 1, 0, none⟩) 0 0) := by rw [hW0]; exact ((Blk.new_at _ _ _ _ (by simp)).alloc _).alloc _
  have bE : Blk W0 (w.heap.size + 1) 71 #[] := by rw [hW0]; exact (((Blk.new_at _ _ _ _ (by simp)).alloc _).alloc _).alloc _
  have bK : Blk W0 (w.heap.size + 1 + 1 + 1) 48 #[.int .i64 0, .int .i64 0, .slice L m c] := by rw [hW0]; exact (Blk.new_at _ _ _ _ (by simp)).alloc _
  have bF : Blk W0 (w.heap.size + 1 + 1 + 1 + 1) 2 #[.int .i64 ((D : Int) + 1)] := by rw [hW0]; exact Blk.new_at _ _ _ _ (by simp)
  have hRow : Row W0 w.heap.size 71 4 (some ⟨w.heap.size + 1, 0, none⟩) 0 0 [] := row0d bE (by omega)
  clear hW0
  obtain ⟨gE, hgE⟩ : ∃ q, q = w.heap.size + 1 := ⟨_, rfl⟩
  rw [← hgE] at hz bS bE bK bF hRow ⊢
  obtain ⟨gS, hgS⟩ : ∃ q, q = gE + 1 := ⟨_, rfl⟩
  rw [← hgS] at hz bS bK bF ⊢
  obtain ⟨gK, hgK⟩ : ∃ q, q = gS + 1 := ⟨_, rfl⟩
  rw [← hgK] at hz bK bF ⊢
  obtain ⟨gF, hgF⟩ : ∃ q, q = gK + 1 := ⟨_, rfl⟩
  rw [← hgF] at hz bF ⊢
  have o1 : w.heap.size < gE := by omega
  have o2 : gE < gS := by omega
  have o3 : gS < gK := by omega
  have o4 : gK < gF := by omega
  have o5 : gF < W0.heap.size := by omega
  clear hgE hgS hgK hgF hz
  obtain ⟨S, hS⟩ : ∃ S : Nat → Prop, S = fun k => k < W0.heap.size ∧ k ≠ gS ∧ k ≠ gE := ⟨_, rfl⟩
  have hSlt : ∀ k, S k → k < W0.heap.size := fun k hk => by rw [hS] at hk; exact hk.1
  have hSS : ¬ S gS := fun hk => by rw [hS] at hk; exact hk.2.1 rfl
  have hSE : ¬ S gE := fun hk => by rw [hS] at hk; exact hk.2.2 rfl
  have hO0 : On S (fun x => Sl x 9 L m (EN es) ∧ x.cell? ⟨gF, 0, none⟩ = some (.int .i64 ((D : Int) + 1))) W0 := by
    have h1 := ((On.below_of (fun _ hb => HL.out.below hb) : On (Rg 0 w.heap.size) (fun x => Sl x 9 L m (EN es)) w).inB hB0 (fun _ hk => hk.2)).sub (T := S) (fun k hk => by rw [hS]; have := hk.2; exact ⟨by omega, by omega, by omega⟩)
    have h2 : On S (fun x => x.cell? ⟨gF, 0, none⟩ = some (.int .i64 ((D : Int) + 1))) W0 := (bF.on.map (fun v hv => hv.cell 0)).sub (fun k hk => by subst hk; rw [hS]; exact ⟨o5, by omega, by omega⟩)
    exact h1.and h2
  clear hS
  obtain ⟨en, hen⟩ : ∃ q, q = es.getD D default := ⟨_, rfl⟩
  obtain ⟨ex, et, ec, es_, ek, ea, eb, eg, eh⟩ := en
  have HEN := Lib.hid hen
  clear hen
  have hseq : SeqStopsK Fence.wide (6 - 1) Tryz.prog 124 #[.pointer (some ⟨gK, 0, none⟩), .pointer (some ⟨gF, 0, none⟩)] (fun (_ : Unit) => #[.agg #[.int .i64 ex, .int .i64 et, .int .i64 ec, .int .i64 es_, .int .i64 ek, .int .i64 ea, .int .i64 eb, .int .i64 eg, .int .i64 eh]]) (Agr S) (fun ys => ys = List.replicate (m - D) ()) (fun pre => pre <+: List.replicate (m - D) ()) (m - D) W0 := fun l J Jx W hW hJ _ hY h0 =>
    entries1_in 5 l S gK gF L m c D es J Jx W hJ HP.out HM.out hD (by rw [← HEN.out]; exact hY) ((hW.cell (p := ⟨gK, 2, none⟩) (by show gK < _; omega)).trans (bK.cell 2)) (hO0.inB hW hSlt) h0
  have HSEQ := Lib.hid hseq
  clear hseq
  refine wpIn_rangeFunc_ownH rfl (by decide) (gf := 124) (lb := #[.pointer (some ⟨gK, 0, none⟩), .pointer (some ⟨gF, 0, none⟩)]) rfl trivial (enters_of Tryz.func124 (by kernel_rfl) rfl)
    HSEQ.out (fun h k => h.trans k) (fun W l o o' h1 h2 h3 h4 => Below.agrB (belowK_b (w := W0) (Nat.le_refl _) W l o o' h1 h2 h3 h4) hSlt) (Below.refl _ _) (fun _ => rfl)
    (fun (pre : List Unit) W => (∃ v, Boxed W gS 49 v ∧ W.ownsRow w.heap.size 71 4 v pre.length (if pre.length = 0 then [] else ints [ec, es_, ex, es_]) ∧ (pre.length = 0 → v = .slice (some ⟨gE, 0, none⟩) 0 0)) ∧ Below w.heap.size w W)
    (fun _ _ _ => False)
    (OwnFrom.and (Own.from (holdsRow_own w.heap.size gS 49 71 4 (fun (pre : List Unit) => pre.length) (fun (pre : List Unit) => if pre.length = 0 then [] else ints [ec, es_, ex, es_]) (fun (pre : List Unit) v => pre.length = 0 → v = .slice (some ⟨gE, 0, none⟩) 0 0)) _) (ownFrom_below (Nat.le_refl _) (by omega)))
    (fun _ _ _ _ _ hs _ _ => hs)
    ⟨⟨_, bS, hRow, fun _ => rfl⟩, hB0⟩
    (fun _ a' W => ∃ Bx, Blk W Bx 76 #[.int .i64 ex, .int .i64 et, .int .i64 ec, .int .i64 es_, .int .i64 ek, .int .i64 ea, .int .i64 eb, .int .i64 eg, .int .i64 eh] ∧ a' = { tmps := #[.agg #[.int .i64 0, .int .i64 0, .slice L m c], .int .i64 (D : Nat), .pointer (some ⟨w.heap.size, 0, none⟩), undef, .slice none 0 0, .pointer (some ⟨gS, 0, none⟩), .pointer (some ⟨Bx, 0, none⟩), .slice (some ⟨gE, 0, none⟩) 0 0, .agg #[.int .i64 0, .int .i64 0, .slice L m c], .int .i64 (D : Nat), .int .i64 ((D : Int) + 1), .func (.func 124) #[] #[.pointer (some ⟨gK, 0, none⟩), .pointer (some ⟨gF, 0, none⟩)], .agg #[.int .i64 ex, .int .i64 et, .int .i64 ec, .int .i64 es_, .int .i64 ek, .int .i64 ea, .int .i64 eb, .int .i64 eg, .int .i64 eh], undef, undef, undef, undef, undef, undef], defers := [] })
    (fun _ a' s X Y row hs hg hr => by
      obtain ⟨Bx, h2, h3⟩ := hs
      exact ⟨Bx, blk_ownFrom (β := Unit) _ Bx _ _ () X Y row h2 hg hr, h3⟩) ?assign ?body ?done ?stop
  case assign =>
    rintro l pre x W K ⟨⟨v, hv, hrow, hG⟩, hB⟩ hK
    gi_wp2
    exact hK _ _ ((KeepsOthers.alloc _ _).from _) (Below.agr ((Below.refl _ _).alloc (Nat.le_refl _) _)) ⟨⟨v, hv.alloc _, World.ownsRow.alloc hrow _, hG⟩, hB.alloc hB.size _⟩ ⟨W.heap.size, Blk.new W _ _, rfl⟩
  case body =>
    rintro l pre x a' W hl ⟨r, hr⟩ ⟨⟨v, hv, hrow, hG⟩, hB⟩ ⟨Bx, bX, rfl⟩ hlt
    have hD1 : m = D + 1 := by omega
    have hpre : pre.length = 0 := by omega
    obtain rfl := hG hpre
    have hrowR : Row W w.heap.size 71 4 (some ⟨gE, 0, none⟩) 0 0 [] := by rw [hpre] at hrow; exact hrow
    clear hrow
    have hBs := hB.size
    have hm1 : D < m := by omega
    have hl1 : (pre ++ [x]).length = 1 := by simp [hpre]
    have HEB := Lib.hid (show entryB ex et ec es_ ek ea eb eg eh = true by
      have h1 := entP_ok (HP.out.2.1 D (by rw [HM.out]; exact hm1)) (by omega)
      rw [← HEN.out] at h1
      exact h1)
    obtain ⟨i0, hi0, hz0, hs0, hy0⟩ := info_parts info_AckV
    have hc := hv.cell
    have hcf := hv.frozen
    have x0 := bX.cell 0
    have x1 := bX.cell 1
    have x2 := bX.cell 2
    have x3 := bX.cell 3
    have x4 := bX.cell 4
    have x5 := bX.cell 5
    have x6 := bX.cell 6
    have x7 := bX.cell 7
    have x8 := bX.cell 8
    refine wpIn_block ?_
    refine region_round0 (by kernel_rfl) (by kernel_rfl) (fun ⟨_, _, h⟩ => h) ?_
    refine wpAny_ready (rs := [0, 1]) (by kernel_rfl) (by simp) ?_
    refine AllReady.cons rfl (fun K hK => ?_) ?_
    · skip
      go_simp
      refine hK _ _ ?_
      clear hK K
      refine wpAny_ready (rs := [1]) (by kernel_rfl) (by simp) ?_
      refine AllReady.cons rfl (fun K hK => ?_) ?_
      · skip
        go_simp
        refine hK _ _ ?_
        clear hK K
        refine wpAny_ready (rs := [2]) (by kernel_rfl) (by simp) ?_
        refine AllReady.cons rfl (fun K hK => ?_) ?_
        · skip
          go_simp
          go_at_call 74
          refine (ackOf_yes ex et ec es_ ek ea eb eg eh _ HEB.out).mono ?_
          rintro e v1 ⟨rfl, b1⟩
          have b1 : Below W.heap.size W v1 := dr1 b1
          have hv1 : Boxed v1 gS 49 (.slice (some ⟨gE, 0, none⟩) 0 0) := Blk.below hv b1
          have hc1 := hv1.cell
          have hc2 := (hv1.alloc (.cells #[.int .i64 ec, .int .i64 es_, .int .i64 ex, .int .i64 es_] 71)).cell
          have hrow1 := (Row.below hrowR b1)
          refine hK _ _ ?_
          clear hK K
          refine wpAny_ready (rs := [3]) (by kernel_rfl) (by simp) ?_
          refine AllReady.cons rfl (fun K hK => ?_) ?_
          · skip
            go_simp
            refine hK _ _ ?_
            clear hK K
            refine wpAny_ready (rs := [4]) (by kernel_rfl) (by simp) ?_
            refine AllReady.cons rfl (fun K hK => ?_) ?_
            · skip
              rw [if_pos (by rfl)]
              refine wp_append_own _ (.tmp 13) (.tmp 16) 49 rfl w.heap.size 71 i0 _ 4 32 Tryz.underlying49 hi0 hz0 hs0 hy0 (by first | kernel_rfl | simp [Value.cells]) (by decide) (.slice (some ⟨gE, 0, none⟩) 0 0) 0 [] rfl (World.ownsRow.alloc hrow1 _) ⟨v1.heap.size, 0, none⟩ 1 1 (ints [ec, es_, ex, es_]) rfl rfl (cell_four_ack rfl) (ints_oneCell' _) (by unfold maxLen; omega) (by omega) (by have := b1.size; simp; omega) ?_
              intro v' w5 hown' hgrow _
              obtain ⟨g', cap', rfl⟩ := ownsRow_succ hown'
              obtain ⟨hv2, hv3, hr3, hk3, hb3⟩ := hv1.appended (by decide) hrow1 (by have := b1.size; omega) (by omega) hown' hgrow
              have hc5 := hv2.cell
              have hf5 := hv2.frozen
              refine hK _ _ ?_
              clear hK K
              refine wpAny_ready (rs := [5]) (by kernel_rfl) (by simp) ?_
              refine AllReady.cons rfl (fun K hK => ?_) ?_
              · skip
                go_simp
                refine hK _ _ ?_
                clear hK K
                refine wpAny_done (by kernel_rfl) ?_ _
                have hkp : Agr S W (w5.setCell ⟨gS, 0, none⟩ (.slice (some ⟨g', 0, none⟩) (0 + 1) cap')) := (((Below.agr b1).trans (Below.agr ((Below.refl v1.heap.size v1).alloc (Nat.le_refl _) (.cells #[.int .i64 ec, .int .i64 es_, .int .i64 ex, .int .i64 es_] 71)))).trans (Agr.wrote (A := some ⟨gE, 0, none⟩) hgrow (fun a ha h => hSE (by cases ha; exact h)))).set_ hSS 0 _
                exact ⟨(keepsFrom_below b1).trans (hk3.from _), hkp, ⟨_, hv3, by rw [hl1]; exact hr3, fun h => by rw [hl1] at h; cases h⟩, hB.trans ((b1.mono hBs).trans hb3)⟩
              exact AllReady.nil
            exact AllReady.nil
          exact AllReady.nil
        exact AllReady.nil
      exact AllReady.nil
    refine AllReady.cons rfl (fun K hK => ?_) ?_
    · skip
      go_simp
      refine hK _ _ ?_
      clear hK K
      refine wpAny_ready (rs := [0, 2]) (by kernel_rfl) (by simp) ?_
      refine AllReady.cons rfl (fun K hK => ?_) ?_
      · skip
        go_simp
        refine hK _ _ ?_
        clear hK K
        refine wpAny_ready (rs := [2]) (by kernel_rfl) (by simp) ?_
        refine AllReady.cons rfl (fun K hK => ?_) ?_
        · skip
          go_simp
          go_at_call 74
          refine (ackOf_yes ex et ec es_ ek ea eb eg eh _ HEB.out).mono ?_
          rintro e v1 ⟨rfl, b1⟩
          have b1 : Below W.heap.size W v1 := dr1 b1
          have hv1 : Boxed v1 gS 49 (.slice (some ⟨gE, 0, none⟩) 0 0) := Blk.below hv b1
          have hc1 := hv1.cell
          have hc2 := (hv1.alloc (.cells #[.int .i64 ec, .int .i64 es_, .int .i64 ex, .int .i64 es_] 71)).cell
          have hrow1 := (Row.below hrowR b1)
          refine hK _ _ ?_
          clear hK K
          refine wpAny_ready (rs := [3]) (by kernel_rfl) (by simp) ?_
          refine AllReady.cons rfl (fun K hK => ?_) ?_
          · skip
            go_simp
            refine hK _ _ ?_
            clear hK K
            refine wpAny_ready (rs := [4]) (by kernel_rfl) (by simp) ?_
            refine AllReady.cons rfl (fun K hK => ?_) ?_
            · skip
              rw [if_pos (by rfl)]
              refine wp_append_own _ (.tmp 13) (.tmp 16) 49 rfl w.heap.size 71 i0 _ 4 32 Tryz.underlying49 hi0 hz0 hs0 hy0 (by first | kernel_rfl | simp [Value.cells]) (by decide) (.slice (some ⟨gE, 0, none⟩) 0 0) 0 [] rfl (World.ownsRow.alloc hrow1 _) ⟨v1.heap.size, 0, none⟩ 1 1 (ints [ec, es_, ex, es_]) rfl rfl (cell_four_ack rfl) (ints_oneCell' _) (by unfold maxLen; omega) (by omega) (by have := b1.size; simp; omega) ?_
              intro v' w5 hown' hgrow _
              obtain ⟨g', cap', rfl⟩ := ownsRow_succ hown'
              obtain ⟨hv2, hv3, hr3, hk3, hb3⟩ := hv1.appended (by decide) hrow1 (by have := b1.size; omega) (by omega) hown' hgrow
              have hc5 := hv2.cell
              have hf5 := hv2.frozen
              refine hK _ _ ?_
              clear hK K
              refine wpAny_ready (rs := [5]) (by kernel_rfl) (by simp) ?_
              refine AllReady.cons rfl (fun K hK => ?_) ?_
              · skip
                go_simp
                refine hK _ _ ?_
                clear hK K
                refine wpAny_done (by kernel_rfl) ?_ _
                have hkp : Agr S W (w5.setCell ⟨gS, 0, none⟩ (.slice (some ⟨g', 0, none⟩) (0 + 1) cap')) := (((Below.agr b1).trans (Below.agr ((Below.refl v1.heap.size v1).alloc (Nat.le_refl _) (.cells #[.int .i64 ec, .int .i64 es_, .int .i64 ex, .int .i64 es_] 71)))).trans (Agr.wrote (A := some ⟨gE, 0, none⟩) hgrow (fun a ha h => hSE (by cases ha; exact h)))).set_ hSS 0 _
                exact ⟨(keepsFrom_below b1).trans (hk3.from _), hkp, ⟨_, hv3, by rw [hl1]; exact hr3, fun h => by rw [hl1] at h; cases h⟩, hB.trans ((b1.mono hBs).trans hb3)⟩
              exact AllReady.nil
            exact AllReady.nil
          exact AllReady.nil
        exact AllReady.nil
      refine AllReady.cons rfl (fun K hK => ?_) ?_
      · skip
        go_simp
        go_at_call 74
        refine (ackOf_yes ex et ec es_ ek ea eb eg eh _ HEB.out).mono ?_
        rintro e v1 ⟨rfl, b1⟩
        have b1 : Below W.heap.size W v1 := dr1 b1
        have hv1 : Boxed v1 gS 49 (.slice (some ⟨gE, 0, none⟩) 0 0) := Blk.below hv b1
        have hc1 := hv1.cell
        have hc2 := (hv1.alloc (.cells #[.int .i64 ec, .int .i64 es_, .int .i64 ex, .int .i64 es_] 71)).cell
        have hrow1 := (Row.below hrowR b1)
        refine hK _ _ ?_
        clear hK K
        refine wpAny_ready (rs := [0, 3]) (by kernel_rfl) (by simp) ?_
        refine AllReady.cons rfl (fun K hK => ?_) ?_
        · skip
          go_simp
          refine hK _ _ ?_
          clear hK K
          refine wpAny_ready (rs := [3]) (by kernel_rfl) (by simp) ?_
          refine AllReady.cons rfl (fun K hK => ?_) ?_
          · skip
            go_simp
            refine hK _ _ ?_
            clear hK K
            refine wpAny_ready (rs := [4]) (by kernel_rfl) (by simp) ?_
            refine AllReady.cons rfl (fun K hK => ?_) ?_
            · skip
              rw [if_pos (by rfl)]
              refine wp_append_own _ (.tmp 13) (.tmp 16) 49 rfl w.heap.size 71 i0 _ 4 32 Tryz.underlying49 hi0 hz0 hs0 hy0 (by first | kernel_rfl | simp [Value.cells]) (by decide) (.slice (some ⟨gE, 0, none⟩) 0 0) 0 [] rfl (World.ownsRow.alloc hrow1 _) ⟨v1.heap.size, 0, none⟩ 1 1 (ints [ec, es_, ex, es_]) rfl rfl (cell_four_ack rfl) (ints_oneCell' _) (by unfold maxLen; omega) (by omega) (by have := b1.size; simp; omega) ?_
              intro v' w5 hown' hgrow _
              obtain ⟨g', cap', rfl⟩ := ownsRow_succ hown'
              obtain ⟨hv2, hv3, hr3, hk3, hb3⟩ := hv1.appended (by decide) hrow1 (by have := b1.size; omega) (by omega) hown' hgrow
              have hc5 := hv2.cell
              have hf5 := hv2.frozen
              refine hK _ _ ?_
              clear hK K
              refine wpAny_ready (rs := [5]) (by kernel_rfl) (by simp) ?_
              refine AllReady.cons rfl (fun K hK => ?_) ?_
              · skip
                go_simp
                refine hK _ _ ?_
                clear hK K
                refine wpAny_done (by kernel_rfl) ?_ _
                have hkp : Agr S W (w5.setCell ⟨gS, 0, none⟩ (.slice (some ⟨g', 0, none⟩) (0 + 1) cap')) := (((Below.agr b1).trans (Below.agr ((Below.refl v1.heap.size v1).alloc (Nat.le_refl _) (.cells #[.int .i64 ec, .int .i64 es_, .int .i64 ex, .int .i64 es_] 71)))).trans (Agr.wrote (A := some ⟨gE, 0, none⟩) hgrow (fun a ha h => hSE (by cases ha; exact h)))).set_ hSS 0 _
                exact ⟨(keepsFrom_below b1).trans (hk3.from _), hkp, ⟨_, hv3, by rw [hl1]; exact hr3, fun h => by rw [hl1] at h; cases h⟩, hB.trans ((b1.mono hBs).trans hb3)⟩
              exact AllReady.nil
            exact AllReady.nil
          exact AllReady.nil
        refine AllReady.cons rfl (fun K hK => ?_) ?_
        · skip
          go_simp
          refine hK _ _ ?_
          clear hK K
          refine wpAny_ready (rs := [0]) (by kernel_rfl) (by simp) ?_
          refine AllReady.cons rfl (fun K hK => ?_) ?_
          · skip
            go_simp
            refine hK _ _ ?_
            clear hK K
            refine wpAny_ready (rs := [4]) (by kernel_rfl) (by simp) ?_
            refine AllReady.cons rfl (fun K hK => ?_) ?_
            · skip
              rw [if_pos (by rfl)]
              refine wp_append_own _ (.tmp 13) (.tmp 16) 49 rfl w.heap.size 71 i0 _ 4 32 Tryz.underlying49 hi0 hz0 hs0 hy0 (by first | kernel_rfl | simp [Value.cells]) (by decide) (.slice (some ⟨gE, 0, none⟩) 0 0) 0 [] rfl (World.ownsRow.alloc hrow1 _) ⟨v1.heap.size, 0, none⟩ 1 1 (ints [ec, es_, ex, es_]) rfl rfl (cell_four_ack rfl) (ints_oneCell' _) (by unfold maxLen; omega) (by omega) (by have := b1.size; simp; omega) ?_
              intro v' w5 hown' hgrow _
              obtain ⟨g', cap', rfl⟩ := ownsRow_succ hown'
              obtain ⟨hv2, hv3, hr3, hk3, hb3⟩ := hv1.appended (by decide) hrow1 (by have := b1.size; omega) (by omega) hown' hgrow
              have hc5 := hv2.cell
              have hf5 := hv2.frozen
              refine hK _ _ ?_
              clear hK K
              refine wpAny_ready (rs := [5]) (by kernel_rfl) (by simp) ?_
              refine AllReady.cons rfl (fun K hK => ?_) ?_
              · skip
                go_simp
                refine hK _ _ ?_
                clear hK K
                refine wpAny_done (by kernel_rfl) ?_ _
                have hkp : Agr S W (w5.setCell ⟨gS, 0, none⟩ (.slice (some ⟨g', 0, none⟩) (0 + 1) cap')) := (((Below.agr b1).trans (Below.agr ((Below.refl v1.heap.size v1).alloc (Nat.le_refl _) (.cells #[.int .i64 ec, .int .i64 es_, .int .i64 ex, .int .i64 es_] 71)))).trans (Agr.wrote (A := some ⟨gE, 0, none⟩) hgrow (fun a ha h => hSE (by cases ha; exact h)))).set_ hSS 0 _
                exact ⟨(keepsFrom_below b1).trans (hk3.from _), hkp, ⟨_, hv3, by rw [hl1]; exact hr3, fun h => by rw [hl1] at h; cases h⟩, hB.trans ((b1.mono hBs).trans hb3)⟩
              exact AllReady.nil
            exact AllReady.nil
          exact AllReady.nil
        exact AllReady.nil
      exact AllReady.nil
    exact AllReady.nil
  case done =>
    rintro D' ys W hD' rfl ⟨⟨v, hv, hrow, hG⟩, hB⟩ hK
    have hc := hv.cell
    gi_wp2
    refine ⟨by simp, .inl ⟨_, _, rfl, run_takeDeferred hK, ?_⟩⟩
    refine ⟨_, results_tmp rfl _ _ _, ?_⟩
    have hBl := hB.trans (belowK_b (w := w) (Nat.le_refl _) W D' _ (.deferred none) (by have := hB0.size; omega) hK rfl rfl)
    rw [List.length_replicate] at hrow hG
    by_cases hlt : D < m
    · have hmd : m - D = 0 + 1 := by omega
      rw [hmd] at hrow
      obtain ⟨g', cap', rfl⟩ := ownsRow_succ hrow
      have hen := HP.out.2.1 D (by rw [HM.out]; exact hlt)
      rw [← HEN.out] at hen
      have h1 := hen.1
      have h2 := hen.2.1
      have h3 := hen.2.2.1
      simp only at h1 h2 h3
      have e1 : oweN es D = 0 + 1 := by unfold oweN; rw [HM.out, if_pos hlt]
      have e2 : oweL es D = [ec, es_, ex, es_] := by
        unfold oweL
        rw [HM.out, if_pos hlt, h1, h2, h3, show (m : Int) = (D : Int) + 1 by omega]
      rw [e1, e2]
      exact ⟨_, cap', rfl, ownsRow_putObj hrow _ hK rfl, hBl⟩
    · have hmd : m - D = 0 := by omega
      obtain rfl := hG hmd
      rw [hmd] at hrow
      have e1 : oweN es D = 0 := by unfold oweN; rw [HM.out, if_neg hlt]
      have e2 : oweL es D = [] := by unfold oweL; rw [HM.out, if_neg hlt]
      rw [e1, e2]
      exact ⟨_, 0, rfl, ownsRow_putObj hrow _ hK rfl, hBl⟩
  case stop =>
    rintro D' c pre W _ _ h _
    exact h.elim
end Go.Proofs.YtbheflinchabgaaGreatDoor
namespace Go.Proofs.YtbheflinchabgaaGreatDoor
set_option linter.unusedSimpArgs false
set_option linter.unusedVariables false
attribute [local go_sem] n_lt2 n_lt3 n_lt4 n_le2 n_le3
open Go.RowKit
attribute [local go_sem] Ext.cell Ext.frozen
set_option maxRecDepth 100000 in
set_option maxHeartbeats 8000000 in
theorem logOk_yes (KA : Option Addr) (cA : Nat) (WA : Option Addr) (dA : Nat) (KB : Option Addr) (cB : Nat) (WB : Option Addr) (dB : Nat) (H : Option Addr) (hc : Nat) (X : Option Addr) (xc : Nat) (L : Option Addr) (lc : Nat) (S : Option Addr) (sc : Nat) (O : Option Addr) (oc : Nat) (m n ns no D : Nat) (es : List En) (z : List Int) (w : World) (hG : LgW w KA WA KB WB L S O lc m n ns no es D z) : Calls Tryz.prog 28 #[.agg #[.slice KA 22 cA, .slice WA m dA, .slice KB 22 cB, .slice WB m dB, .int .i64 0, .int .i64 0, .int .i64 0, .slice H 0 hc, .int .i64 0, .int .i64 0, .int .i64 0, .slice X 0 xc, .bool false, .int .i64 0, .int .i64 0, .slice L n lc, .slice S ns sc, .int .i64 (D : Nat), .slice O no oc]] w fun e w' => e = .returned (.bool true) ∧ Below w.heap.size w w' := by
  have HP := Lib.hid hG.p
  have HNN := Lib.hid hG.hn
  have HSS := Lib.hid hG.hs
  have HOO := Lib.hid hG.ho
  have hd1 := hG.d1
  have hd2 := hG.d2
  rw [← HNN.out] at hd1 hd2
  have hn8 : n ≤ 8 := by have := hG.p.1; rw [← HNN.out] at this; exact this
  have HIG : Hid (On (Rg 0 w.heap.size) (fun x => LgW x KA WA KB WB L S O lc m n ns no es D z) w) := Lib.hid (On.below_of (fun _ hb => (hG).below hb))
  clear hG
  go_enter Tryz.func28, Tryz.ntmps28
  go_wp2_with fail
  refine calls_named ?_
  rintro v0 hv0
  have f0 : Below w.heap.size w v0 := by rw [hv0]; (repeat' (first | (with_reducible exact Below.refl _ _) | (with_reducible assumption) | (with_reducible refine Below.alloc ?_ ?_ _) | (with_reducible refine Below.drew ?_) | (with_reducible refine Below.setCell ?_ ?_ _) | (with_reducible refine bstep (by assumption) ?_ ?_) | (with_reducible exact Nat.le_refl _) | omega | (simp [*]; done) | (simp [*]; omega)))
  have z0 : w.heap.size + 1 ≤ v0.heap.size := by rw [hv0]; simp [size_set]
  have HN_0 : Hid (Blk v0 w.heap.size 51 #[.slice KA 22 cA, .slice WA m dA, .slice KB 22 cB, .slice WB m dB, .int .i64 0, .int .i64 0, .int .i64 0, .slice H 0 hc, .int .i64 0, .int .i64 0, .int .i64 0, .slice X 0 xc, .bool false, .int .i64 0, .int .i64 0, .slice L n lc, .slice S ns sc, .int .i64 (D : Nat), .slice O no oc]) := by rw [hv0]; exact Lib.hid ((Blk.new_at _ _ _ _ (by simp [size_set])))
  clear hv0
  obtain ⟨gN, hgN⟩ : ∃ q, q = w.heap.size := ⟨_, rfl⟩
  rw [← hgN] at HN_0
  try rw [← hgN]
  have lgN : w.heap.size ≤ gN := by omega
  have mgN : gN < v0.heap.size := by omega
  have ngN : ∀ k, w.heap.size ≤ k → k ≠ gN → True := fun _ _ _ => trivial
  clear ngN
  clear hgN
  refine (keptOk_yes KA WA KB WB cA m dA cB m dB (diskL z (es.take D)) (diskL z (es.take D)) (waitD es D) (waitD es D) v0 ((HIG.out).inB f0 (fun _ hk => hk.2)).out.a ((HIG.out).inB f0 (fun _ hk => hk.2)).out.b).mono ?_
  rintro e v1 ⟨rfl, b1⟩
  have f1 := bthen f0 b1
  have z1 := b1.size
  have HN_1 := Lib.hid (HN_0.out.below b1)
  clear HN_0
  have lt_N := HN_1.out.lt
  obtain ⟨r_N0, r_N1, r_N2, r_N3, r_N4, r_N5, r_N6, r_N7, r_N8, r_N9, r_N10, r_N11, r_N12, r_N13, r_N14, r_N15, r_N16, r_N17, r_N18⟩ := bc19 HN_1.out
  go_wp2_with fail
  refine (headOk_zero H hc v1).mono ?_
  rintro e v2 ⟨rfl, b2⟩
  have f2 := bthen f1 b2
  have z2 := b2.size
  have HN_2 := Lib.hid (HN_1.out.below b2)
  clear lt_N r_N0 r_N1 r_N2 r_N3 r_N4 r_N5 r_N6 r_N7 r_N8 r_N9 r_N10 r_N11 r_N12 r_N13 r_N14 r_N15 r_N16 r_N17 r_N18
  clear HN_1
  have lt_N := HN_2.out.lt
  obtain ⟨r_N0, r_N1, r_N2, r_N3, r_N4, r_N5, r_N6, r_N7, r_N8, r_N9, r_N10, r_N11, r_N12, r_N13, r_N14, r_N15, r_N16, r_N17, r_N18⟩ := bc19 HN_2.out
  go_wp2_with fail
  refine (bookOk_zero L n lc es v2 ((HIG.out).inB f2 (fun _ hk => hk.2)).out.l HP.out HNN.out.symm).mono ?_
  rintro e v3 ⟨rfl, b3⟩
  have f3 := bthen f2 b3
  have z3 := b3.size
  have HN_3 := Lib.hid (HN_2.out.below b3)
  clear lt_N r_N0 r_N1 r_N2 r_N3 r_N4 r_N5 r_N6 r_N7 r_N8 r_N9 r_N10 r_N11 r_N12 r_N13 r_N14 r_N15 r_N16 r_N17 r_N18
  clear HN_2
  have lt_N := HN_3.out.lt
  obtain ⟨r_N0, r_N1, r_N2, r_N3, r_N4, r_N5, r_N6, r_N7, r_N8, r_N9, r_N10, r_N11, r_N12, r_N13, r_N14, r_N15, r_N16, r_N17, r_N18⟩ := bc19 HN_3.out
  go_wp2_with fail
  have hcc := seenOver_yes H L hc lc [] es v3 (Sl.nil _ _ _) (by rw [← HNN.out]; exact ((HIG.out).inB f3 (fun _ hk => hk.2)).out.l) (by rw [List.nil_append]; exact HP.out)
  rw [List.nil_append, show markN [] = 0 from rfl, ← HNN.out, ← HSS.out] at hcc
  refine hcc.mono ?_
  rintro e v4 ⟨A4, c4, rfl, R4, b4⟩
  clear hcc
  have hR4 := R4.on
  clear R4
  have f4 := bthen f3 b4
  have z4 := b4.size
  have HN_4 := Lib.hid (HN_3.out.below b4)
  clear lt_N r_N0 r_N1 r_N2 r_N3 r_N4 r_N5 r_N6 r_N7 r_N8 r_N9 r_N10 r_N11 r_N12 r_N13 r_N14 r_N15 r_N16 r_N17 r_N18
  clear HN_3
  have HR4 := Lib.hid hR4
  clear hR4
  have lt_N := HN_4.out.lt
  obtain ⟨r_N0, r_N1, r_N2, r_N3, r_N4, r_N5, r_N6, r_N7, r_N8, r_N9, r_N10, r_N11, r_N12, r_N13, r_N14, r_N15, r_N16, r_N17, r_N18⟩ := bc19 HN_4.out
  go_wp2_with fail
  have hSS4 := Lib.hid (((HIG.out).inB f4 (fun _ hk => hk.2)).out.s)
  have hS0 : ∀ b o, b < v4.heap.size → v4.cell? ⟨b, o, none⟩ = v4.cell? ⟨b, o, none⟩ := fun _ _ _ => rfl
  have HB4 := Lib.hid (Below.refl v4.heap.size v4)
  have hbt : inB (D : Int) 0 (n : Int) = true := by unfold inB; simp; omega
  have hgN : gN < v4.heap.size := HN_4.out.lt
  go_region_held_law (fun w' => ∀ b o, b < v4.heap.size → w'.cell? ⟨b, o, none⟩ = v4.cell? ⟨b, o, none⟩) (repeat' (first | with_reducible assumption | with_reducible exact hS0 | with_reducible refine rd_drew ?_)) (first | (go_at_call 58; have hcc := sameSeen_marks A4 S c4 sc es v4.drew (by rw [← HSS.out]; exact Sl.drew HR4.out.out.sl) (by rw [← HSS.out]; exact Sl.drew hSS4.out); rw [← HSS.out] at hcc; (refine hcc.mono ?_); clear hcc; rintro e v5 ⟨rfl, b5⟩; have E5 : Below v4.heap.size v4 v5 := dr1 b5; have hS1 : ∀ b o, b < v4.heap.size → v5.cell? ⟨b, o, none⟩ = v4.cell? ⟨b, o, none⟩ := fun b o hb => E5.cell (p := ⟨b, o, none⟩) hb) | (go_at_call 38; refine (lastOf_zero L n lc _ (by omega)).mono ?_; rintro e v6 ⟨rfl, b6⟩; have E6 : Below v4.heap.size v4 v6 := bthen E5 b6; have hS2 : ∀ b o, b < v4.heap.size → v6.cell? ⟨b, o, none⟩ = v4.cell? ⟨b, o, none⟩ := fun b o hb => E6.cell (p := ⟨b, o, none⟩) hb) | (go_at_call 59; have hcc := between_any (D : Nat) 0 (n : Nat) v6; rw [hbt] at hcc; refine hcc.mono ?_; clear hcc; rintro e w' ⟨rfl, rfl⟩))
  all_goals
    rename_i hHx
    clear hHx hS0 hS1 hS2 HB4 hSS4 HR4
    go_wp2_with fail
    have f6 := bthen f4 E6
    have HN_6 := Lib.hid (HN_4.out.below E6)
    clear HN_4
    have hG6 := Lib.hid ((HIG.out).inB f6 (fun _ hk => hk.2)).out
    refine wp_region_held_drew (S := fun w' => Blk w' gN 51 #[.slice KA 22 cA, .slice WA m dA, .slice KB 22 cB, .slice WB m dB, .int .i64 0, .int .i64 0, .int .i64 0, .slice H 0 hc, .int .i64 0, .int .i64 0, .int .i64 0, .slice X 0 xc, .bool false, .int .i64 0, .int .i64 0, .slice L n lc, .slice S ns sc, .int .i64 (D : Nat), .slice O no oc]) (by kernel_rfl) HN_6.out.drew (fun hS => ?_)
    refine wpAnyH_take (i := 0) (oi := _) (v := _) rfl (by kernel_rfl) (by kernel_rfl) (by kernel_rfl) (fun _ _ _ h => h) (yieldsIf_load_mid (by rfl) 51 (.tmp 1) rfl gN 0 rfl [.slice KA 22 cA, .slice WA m dA, .slice KB 22 cB, .slice WB m dB, .int .i64 0, .int .i64 0, .int .i64 0, .slice H 0 hc, .int .i64 0, .int .i64 0, .int .i64 0, .slice X 0 xc, .bool false, .int .i64 0, .int .i64 0, .slice L n lc, .slice S ns sc, .int .i64 (D : Nat), .slice O no oc] _ (fun w' h => blk_part h 0 19 _ rfl) Tryz.underlying51 rfl (by kernel_rfl)) hS ?_
    change wpAnyH _ _ _ _ _ _ _ (Act.put _ (some 70) _) _
    simp only [Act.put, List.setIfInBounds_toArray, List.set_cons_zero, List.set_cons_succ]
    refine wpAnyH_ready (rs := [1]) (by kernel_rfl) (by simp) ?_
    refine AllReadyH.cons rfl (fun K hK => ?_) ?_
    · skip
      go_simp
      go_at_call 60
      refine (nextOk_yes KA cA WA dA KB cB WB dB H hc X xc L lc S sc O oc m n ns no D _).mono ?_
      rintro e v7 ⟨rfl, b7⟩
      have E7 : Below v6.heap.size v6 v7 := dr1 b7
      refine hK.out _ _ (HN_6.out.below E7) (fun hS => ?_)
      clear hK K
      try change wpAnyH _ _ _ _ _ _ _ (Act.put _ (some 71) _) _
      try simp only [Act.put, List.setIfInBounds_toArray, List.set_cons_zero, List.set_cons_succ]
      refine wpAnyH_take (i := 2) (oi := _) (v := ?_) rfl (by kernel_rfl) (by kernel_rfl) (by kernel_rfl) (fun _ _ _ h => h) (Or.inl ⟨by rfl, ?_⟩) hS ?_
      rotate_left 1
      · intro w hSw; clear hSw; (go_simp <;> with_reducible rfl)
      change wpAnyH _ _ _ _ _ _ _ (Act.put _ (some 72) _) _
      simp only [Act.put, List.setIfInBounds_toArray, List.set_cons_zero, List.set_cons_succ]
      refine wpAnyH_take (i := 3) (oi := _) (v := ?_) rfl (by kernel_rfl) (by kernel_rfl) (by kernel_rfl) (fun _ _ _ h => h) (Or.inl ⟨by rfl, ?_⟩) hS ?_
      rotate_left 1
      · intro w hSw; clear hSw; (go_simp <;> with_reducible rfl)
      change wpAnyH _ _ _ _ _ _ _ (Act.put _ (some 73) _) _
      simp only [Act.put, List.setIfInBounds_toArray, List.set_cons_zero, List.set_cons_succ]
      refine wpAnyH_take (i := 4) (oi := _) (v := .slice O no oc) rfl (by kernel_rfl) (by kernel_rfl) (by kernel_rfl) (fun _ _ _ h => h) (Or.inl ⟨by rfl, fun w' h => by have c : w'.cell? ⟨gN, 18, none⟩ = some (.slice O no oc) := Blk.cell h 18; clear h; go_simp⟩) hS ?_
      change wpAnyH _ _ _ _ _ _ _ (Act.put _ (some 74) _) _
      simp only [Act.put, List.setIfInBounds_toArray, List.set_cons_zero, List.set_cons_succ]
      refine wpAnyH_take (i := 5) (oi := _) (v := ?_) rfl (by kernel_rfl) (by kernel_rfl) (by kernel_rfl) (fun _ _ _ h => h) (Or.inl ⟨by rfl, ?_⟩) hS ?_
      rotate_left 1
      · intro w hSw; clear hSw; (go_simp <;> with_reducible rfl)
      change wpAnyH _ _ _ _ _ _ _ (Act.put _ (some 75) _) _
      simp only [Act.put, List.setIfInBounds_toArray, List.set_cons_zero, List.set_cons_succ]
      refine wpAnyH_take (i := 6) (oi := _) (v := _) rfl (by kernel_rfl) (by kernel_rfl) (by kernel_rfl) (fun _ _ _ h => h) (yieldsIf_load_mid (by rfl) 48 (.tmp 75) rfl gN 13 rfl [.int .i64 0, .int .i64 0, .slice L n lc] _ (fun w' h => blk_part h 13 3 _ rfl) Tryz.underlying48 rfl (by kernel_rfl)) hS ?_
      change wpAnyH _ _ _ _ _ _ _ (Act.put _ (some 76) _) _
      simp only [Act.put, List.setIfInBounds_toArray, List.set_cons_zero, List.set_cons_succ]
      refine wpAnyH_take (i := 7) (oi := _) (v := ?_) rfl (by kernel_rfl) (by kernel_rfl) (by kernel_rfl) (fun _ _ _ h => h) (Or.inl ⟨by rfl, ?_⟩) hS ?_
      rotate_left 1
      · intro w hSw; clear hSw; (go_simp <;> with_reducible rfl)
      change wpAnyH _ _ _ _ _ _ _ (Act.put _ (some 77) _) _
      simp only [Act.put, List.setIfInBounds_toArray, List.set_cons_zero, List.set_cons_succ]
      refine wpAnyH_take (i := 8) (oi := _) (v := .int .i64 (D : Nat)) rfl (by kernel_rfl) (by kernel_rfl) (by kernel_rfl) (fun _ _ _ h => h) (Or.inl ⟨by rfl, fun w' h => by have c : w'.cell? ⟨gN, 17, none⟩ = some (.int .i64 (D : Nat)) := Blk.cell h 17; clear h; go_simp⟩) hS ?_
      change wpAnyH _ _ _ _ _ _ _ (Act.put _ (some 78) _) _
      simp only [Act.put, List.setIfInBounds_toArray, List.set_cons_zero, List.set_cons_succ]
      refine wpAnyH_ready (rs := [9]) (by kernel_rfl) (by simp) ?_
      refine AllReadyH.cons rfl (fun K hK => ?_) ?_
      · skip
        go_simp
        go_at_call 62
        have hcc := owed_yes L n lc D es v7 (hG6.out.l.below E7) HP.out HNN.out.symm (by omega) (by omega)
        rw [← HOO.out] at hcc
        refine hcc.mono ?_
        clear hcc
        rintro e v8 ⟨A8, c8, rfl, R8, b8⟩
        have E8 : Below v6.heap.size v6 v8 := bthen E7 b8
        have hR8 := Lib.hid R8
        clear R8
        refine hK.out _ _ (HN_6.out.below E8) (fun hS => ?_)
        clear hK K
        try change wpAnyH _ _ _ _ _ _ _ (Act.put _ (some 79) _) _
        try simp only [Act.put, List.setIfInBounds_toArray, List.set_cons_zero, List.set_cons_succ]
        refine wpAnyH_ready (rs := [10]) (by kernel_rfl) (by simp) ?_
        refine AllReadyH.cons rfl (fun K hK => ?_) ?_
        · skip
          go_simp
          go_at_call 61
          refine (equalAck_owe O A8 oc c8 no es D v8 HOO.out (hG6.out.o.below E8) hR8.out.sl).mono ?_
          rintro e v9 ⟨rfl, b9⟩
          have E9 : Below v6.heap.size v6 v9 := bthen E8 b9
          refine hK.out _ _ (HN_6.out.below E9) (fun hS => ?_)
          clear hK K
          try change wpAnyH _ _ _ _ _ _ _ (Act.put _ (some 80) _) _
          try simp only [Act.put, List.setIfInBounds_toArray, List.set_cons_zero, List.set_cons_succ]
          refine wpAnyH_take (i := 11) (oi := _) (v := ?_) rfl (by kernel_rfl) (by kernel_rfl) (by kernel_rfl) (fun _ _ _ h => h) (Or.inl ⟨by rfl, ?_⟩) hS ?_
          rotate_left 1
          · intro w hSw; clear hSw; (go_simp <;> with_reducible rfl)
          change wpAnyH _ _ _ _ _ _ _ (Act.put _ (some 81) _) _
          simp only [Act.put, List.setIfInBounds_toArray, List.set_cons_zero, List.set_cons_succ]
          refine wpAnyH_take (i := 12) (oi := _) (v := ?_) rfl (by kernel_rfl) (by kernel_rfl) (by kernel_rfl) (fun _ _ _ h => h) (Or.inl ⟨by rfl, ?_⟩) hS ?_
          rotate_left 1
          · intro w hSw; clear hSw; (go_simp <;> with_reducible rfl)
          change wpAnyH _ _ _ _ _ _ _ (Act.put _ (some 2) _) _
          simp only [Act.put, List.setIfInBounds_toArray, List.set_cons_zero, List.set_cons_succ]
          refine wpAnyH_done (by kernel_rfl) ?_ _
          go_wp21
          refine bodyPost_ret (v := .bool true) (by simp [results, Tryz.results28, go_sem]) rfl ?_
          exact ⟨rfl, bthen f6 E9⟩
        exact AllReadyH.nil
      exact AllReadyH.nil
    exact AllReadyH.nil
set_option maxRecDepth 100000 in
set_option maxHeartbeats 4000000 in
theorem heldIn2_yes (KA : Option Addr) (cA : Nat) (WA : Option Addr) (dA : Nat) (KB : Option Addr) (cB : Nat) (WB : Option Addr) (dB : Nat) (H : Option Addr) (hc : Nat) (X : Option Addr) (xc : Nat) (L : Option Addr) (lc : Nat) (S : Option Addr) (sc : Nat) (O : Option Addr) (oc : Nat) (m n ns no D : Nat) (es : List En) (z : List Int) (w : World) (hG : LgW w KA WA KB WB L S O lc m n ns no es D z) : Calls Tryz.prog 18 #[.agg #[.slice KA 22 cA, .slice WA m dA, .slice KB 22 cB, .slice WB m dB, .int .i64 0, .int .i64 0, .int .i64 0, .slice H 0 hc, .int .i64 0, .int .i64 0, .int .i64 0, .slice X 0 xc, .bool false, .int .i64 0, .int .i64 0, .slice L n lc, .slice S ns sc, .int .i64 (D : Nat), .slice O no oc]] w (RetRow w 76 9 D (EN (es.take D))) := by
  have HNN := Lib.hid hG.hn
  have HLL := Lib.hid hG.hl
  have hd1 := hG.d1
  rw [← HNN.out] at hd1
  have hn8 : n ≤ 8 := by have := hG.p.1; rw [← HNN.out] at this; exact this
  have HIG : Hid (On (Rg 0 w.heap.size) (fun x => LgW x KA WA KB WB L S O lc m n ns no es D z) w) := Lib.hid (On.below_of (fun _ hb => (hG).below hb))
  clear hG
  go_enter Tryz.func18, Tryz.ntmps18
  go_upto_region 1 with fail
  obtain ⟨v0, hv0⟩ : ∃ x : World, x = (w.alloc (.cells #[.slice KA 22 cA, .slice WA m dA, .slice KB 22 cB, .slice WB m dB, .int .i64 0, .int .i64 0, .int .i64 0, .slice H 0 hc, .int .i64 0, .int .i64 0, .int .i64 0, .slice X 0 xc, .bool false, .int .i64 0, .int .i64 0, .slice L n lc, .slice S ns sc, .int .i64 (D : Nat), .slice O no oc] 51)) := ⟨_, rfl⟩
  rw [← hv0]
  have f0 : Below w.heap.size w v0 := by rw [hv0]; (repeat' (first | (with_reducible exact Below.refl _ _) | (with_reducible assumption) | (with_reducible refine Below.alloc ?_ ?_ _) | (with_reducible refine Below.drew ?_) | (with_reducible refine Below.setCell ?_ ?_ _) | (with_reducible refine bstep (by assumption) ?_ ?_) | (with_reducible exact Nat.le_refl _) | omega | (simp [*]; done) | (simp [*]; omega)))
  have z0 : w.heap.size + 1 ≤ v0.heap.size := by rw [hv0]; simp [size_set]
  have HN_0 : Hid (Blk v0 w.heap.size 51 #[.slice KA 22 cA, .slice WA m dA, .slice KB 22 cB, .slice WB m dB, .int .i64 0, .int .i64 0, .int .i64 0, .slice H 0 hc, .int .i64 0, .int .i64 0, .int .i64 0, .slice X 0 xc, .bool false, .int .i64 0, .int .i64 0, .slice L n lc, .slice S ns sc, .int .i64 (D : Nat), .slice O no oc]) := by rw [hv0]; exact Lib.hid ((Blk.new_at _ _ _ _ (by simp [size_set])))
  clear hv0
  obtain ⟨gN, hgN⟩ : ∃ q, q = w.heap.size := ⟨_, rfl⟩
  rw [← hgN] at HN_0
  try rw [← hgN]
  have lgN : w.heap.size ≤ gN := by omega
  have mgN : gN < v0.heap.size := by omega
  have ngN : ∀ k, w.heap.size ≤ k → k ≠ gN → True := fun _ _ _ => trivial
  clear ngN
  clear hgN
  go_wp2_with (show wpList _ _ _ (Oper.mk _ (Op.load 51 _) _ _ _ _ :: _) _ _; refine wpList_load_row rfl 51 _ rfl gN rfl 51 #[.slice KA 22 cA, .slice WA m dA, .slice KB 22 cB, .slice WB m dB, .int .i64 0, .int .i64 0, .int .i64 0, .slice H 0 hc, .int .i64 0, .int .i64 0, .int .i64 0, .slice X 0 xc, .bool false, .int .i64 0, .int .i64 0, .slice L n lc, .slice S ns sc, .int .i64 (D : Nat), .slice O no oc] (0, 0) _ HN_0.out Tryz.underlying51 rfl (by kernel_rfl) ?_)
  refine (logOk_yes KA cA WA dA KB cB WB dB H hc X xc L lc S sc O oc m n ns no D es z v0 ((HIG.out).inB f0 (fun _ hk => hk.2)).out).mono ?_
  rintro e v1 ⟨rfl, b1⟩
  have f1 := bthen f0 b1
  have z1 := b1.size
  have HN_1 := Lib.hid (HN_0.out.below b1)
  clear HN_0
  go_wp2_with (show wpList _ _ _ (Oper.mk _ (Op.load 51 _) _ _ _ _ :: _) _ _; refine wpList_load_row rfl 51 _ rfl gN rfl 51 #[.slice KA 22 cA, .slice WA m dA, .slice KB 22 cB, .slice WB m dB, .int .i64 0, .int .i64 0, .int .i64 0, .slice H 0 hc, .int .i64 0, .int .i64 0, .int .i64 0, .slice X 0 xc, .bool false, .int .i64 0, .int .i64 0, .slice L n lc, .slice S ns sc, .int .i64 (D : Nat), .slice O no oc] (0, 0) _ HN_1.out Tryz.underlying51 rfl (by kernel_rfl) ?_)
  refine (heldIn_yes KA cA WA dA KB cB WB dB H hc X xc L lc S sc O oc m n ns no D es v1 ((HIG.out).inB f1 (fun _ hk => hk.2)).out.l HNN.out (by omega) hd1 HLL.out).mono ?_
  rintro e v2 ⟨A2, c2, rfl, R2, b2⟩
  go_wp21
  refine bodyPost_ret (v := .slice A2 D c2) (by simp [results, Tryz.results18, go_sem]) rfl ?_
  exact ⟨A2, c2, rfl, Row.mono R2 f1.size, bthen f1 b2⟩
end Go.Proofs.YtbheflinchabgaaGreatDoor
namespace Go.Proofs.YtbheflinchabgaaGreatDoor
set_option linter.unusedSimpArgs false
set_option linter.unusedVariables false
attribute [local go_sem] n_lt2 n_lt3 n_lt4 n_le2 n_le3
open Go.RowKit
attribute [local go_sem] Ext.cell Ext.frozen
theorem copyDisk_any (K W : Option Addr) (n c d m : Nat) (rows : List (List Int)) (ws : List (Int × List Int)) (w : World) (h : Dk w K n W m rows ws) (hm : m ≤ 1) :
    Calls Tryz.prog 106 #[.agg #[.slice K n c, .slice W m d]] w (RetDk w n m rows ws id) := by
  have hl := h.wl
  match ws, hl, h with
  | [], hl, h =>
    obtain rfl : m = 0 := by simpa using hl.symm
    exact (copyDisk_none K W n c d rows w h).mono fun e w' hq => hq.dk h.hn h.r
  | [x], hl, h =>
    obtain rfl : m = 1 := by simpa using hl.symm
    have hx := h.x _ (List.mem_singleton.2 rfl)
    obtain ⟨x1, x2⟩ := x
    exact (copyDisk_one K W n c d rows x1 x2 w h).mono fun e w' hq => hq.dk h.hn h.r hx.1 hx.2
  | x :: y :: l, hl, h => simp at hl; omega
set_option maxRecDepth 100000 in
set_option maxHeartbeats 4000000 in
theorem copyTwo_any (KA WA KB WB : Option Addr) (cA dA cB dB ma mb : Nat) (ra rb : List (List Int)) (wa wb : List (Int × List Int)) (w : World) (hA : Dk w KA 22 WA ma ra wa) (hB : Dk w KB 22 WB mb rb wb) (ha : ma ≤ 1) (hb : mb ≤ 1) :
    Calls Tryz.prog 63 #[.agg #[.slice KA 22 cA, .slice WA ma dA, .slice KB 22 cB, .slice WB mb dB]] w (RetTw w ma mb ra wa rb wb id) := by
  have HIA : Hid (On (Rg 0 w.heap.size) (fun x => Dk x KA 22 WA ma ra wa) w) := Lib.hid (On.below_of (fun _ hb => (hA).below hb))
  clear hA
  have HIB : Hid (On (Rg 0 w.heap.size) (fun x => Dk x KB 22 WB mb rb wb) w) := Lib.hid (On.below_of (fun _ hb => (hB).below hb))
  clear hB
  go_enter Tryz.func63, Tryz.ntmps63
  go_upto_region 1 with fail
  obtain ⟨v0, hv0⟩ : ∃ x : World, x = ((w.alloc (.cells #[.slice KA 22 cA, .slice WA ma dA, .slice KB 22 cB, .slice WB mb dB] 42)).alloc (.cells #[.slice none 0 0, .slice none 0 0, .slice none 0 0, .slice none 0 0] 42)) := ⟨_, rfl⟩
  rw [← hv0]
  have f0 : Below w.heap.size w v0 := by rw [hv0]; (repeat' (first | (with_reducible exact Below.refl _ _) | (with_reducible assumption) | (with_reducible refine Below.alloc ?_ ?_ _) | (with_reducible refine Below.drew ?_) | (with_reducible refine Below.setCell ?_ ?_ _) | (with_reducible refine bstep (by assumption) ?_ ?_) | (with_reducible exact Nat.le_refl _) | omega | (simp [*]; done) | (simp [*]; omega)))
  have z0 : w.heap.size + 2 ≤ v0.heap.size := by rw [hv0]; simp [size_set]
  have HT_0 : Hid (Blk v0 w.heap.size 42 #[.slice KA 22 cA, .slice WA ma dA, .slice KB 22 cB, .slice WB mb dB]) := by rw [hv0]; exact Lib.hid (((Blk.new_at _ _ _ _ (by simp [size_set]))).alloc _)
  have HR_0 : Hid (Blk v0 (w.heap.size + 1) 42 #[.slice none 0 0, .slice none 0 0, .slice none 0 0, .slice none 0 0]) := by rw [hv0]; exact Lib.hid ((Blk.new_at _ _ _ _ (by simp [size_set])))
  clear hv0
  obtain ⟨gR, hgR⟩ : ∃ q, q = w.heap.size + 1 := ⟨_, rfl⟩
  rw [← hgR] at HR_0
  try rw [← hgR]
  have lgR : w.heap.size ≤ gR := by omega
  have mgR : gR < v0.heap.size := by omega
  have ngR : ∀ k, w.heap.size ≤ k → k ≠ gR → True := fun _ _ _ => trivial
  clear ngR
  obtain ⟨gT, hgT⟩ : ∃ q, q = w.heap.size := ⟨_, rfl⟩
  rw [← hgT] at HT_0
  try rw [← hgT]
  have lgT : w.heap.size ≤ gT := by omega
  have mgT : gT < v0.heap.size := by omega
  have ngT : ∀ k, w.heap.size ≤ k → k ≠ gT → True := fun _ _ _ => trivial
  clear ngT
  have nnTR : gT < gR := by omega
  clear hgT
  clear hgR
  have lt_T := HT_0.out.lt
  obtain ⟨r_T0, r_T1, r_T2, r_T3⟩ := bc4 HT_0.out
  have lt_R := HR_0.out.lt
  obtain ⟨r_R0, r_R1, r_R2, r_R3⟩ := bc4 HR_0.out
  obtain ⟨z_R0, z_R1, z_R2, z_R3⟩ := bf4 HR_0.out
  have hS0 : ∀ b o, b < gR → v0.cell? ⟨b, o, none⟩ = v0.cell? ⟨b, o, none⟩ := fun _ _ _ => rfl
  have hA0 := Lib.hid ((HIA.out).inB f0 (fun _ hk => hk.2)).out
  have hB0 := Lib.hid ((HIB.out).inB f0 (fun _ hk => hk.2)).out
  go_region_held_law (fun w' => ∀ b o, b < gR → w'.cell? ⟨b, o, none⟩ = v0.cell? ⟨b, o, none⟩) (repeat' (first | with_reducible assumption | with_reducible exact Nat.le_refl _ | with_reducible exact hS0 | with_reducible refine rd_drew ?_ | with_reducible refine rd_set ?_ ?_ _ _)) (first | (go_at_call 106; have hcc := copyDisk_any KB WB 22 cB dB mb rb wb v1 (hB0.out.below E1) hb; (with_reducible refine hcc.mono ?_); clear hcc; rintro e v2 ⟨KB', cB', WB', dB', rfl, hO, E2⟩; have q1 := E1.size; have q2 := E2.size; have HBF : Hid (On (Rg v0.heap.size v2.heap.size) (fun x => Dk x KB' 22 WB' mb rb wb) v2) := Lib.hid (hO.sub (Rg.sub q1 (Nat.le_refl _))); have HAF : Hid (On (Rg v0.heap.size v2.heap.size) (fun x => Dk x KA' 22 WA' ma ra wa) v2) := Lib.hid ((HA1.out.below E2).sub (Rg.sub (Nat.le_refl _) q2)); have hS2 : ∀ b o, b < gR → v2.cell? ⟨b, o, none⟩ = v0.cell? ⟨b, o, none⟩ := fun b o hb => (E2.cell (p := ⟨b, o, none⟩) (by show b < _; omega)).trans (hS1 b o hb); have KR2 := KR1.below E2; clear x0 x1 x2 x3 y0 y1 y2 y3 yl; have x0 := KR2.cell 0; have x1 := KR2.cell 1; have x2 := KR2.cell 2; have x3 := KR2.cell 3; have y0 := KR2.frozen 0; have y1 := KR2.frozen 1; have y2 := KR2.frozen 2; have y3 := KR2.frozen 3; have yl := KR2.lt) | (go_at_call 106; have hcc := copyDisk_any KA WA 22 cA dA ma ra wa v1 (hA0.out.below E1) ha; (with_reducible refine hcc.mono ?_); clear hcc; rintro e v2 ⟨KA', cA', WA', dA', rfl, hO, E2⟩; have q1 := E1.size; have q2 := E2.size; have HAF : Hid (On (Rg v0.heap.size v2.heap.size) (fun x => Dk x KA' 22 WA' ma ra wa) v2) := Lib.hid (hO.sub (Rg.sub q1 (Nat.le_refl _))); have HBF : Hid (On (Rg v0.heap.size v2.heap.size) (fun x => Dk x KB' 22 WB' mb rb wb) v2) := Lib.hid ((HB1.out.below E2).sub (Rg.sub (Nat.le_refl _) q2)); have hS2 : ∀ b o, b < gR → v2.cell? ⟨b, o, none⟩ = v0.cell? ⟨b, o, none⟩ := fun b o hb => (E2.cell (p := ⟨b, o, none⟩) (by show b < _; omega)).trans (hS1 b o hb); have KR2 := KR1.below E2; clear x0 x1 x2 x3 y0 y1 y2 y3 yl; have x0 := KR2.cell 0; have x1 := KR2.cell 1; have x2 := KR2.cell 2; have x3 := KR2.cell 3; have y0 := KR2.frozen 0; have y1 := KR2.frozen 1; have y2 := KR2.frozen 2; have y3 := KR2.frozen 3; have yl := KR2.lt) | (go_at_call 106; have hcc := copyDisk_any KA WA 22 cA dA ma ra wa v0.drew ((On.below_of (fun _ hb => hA0.out.below hb)).drew).out ha; (with_reducible refine hcc.mono ?_); clear hcc; rintro e v1 ⟨KA', cA', WA', dA', rfl, hO, b1⟩; have E1 : Below v0.heap.size v0 v1 := tb_dr1 b1; have HA1 : Hid (On (Rg v0.heap.size v1.heap.size) (fun x => Dk x KA' 22 WA' ma ra wa) v1) := Lib.hid hO; have hS1 : ∀ b o, b < gR → v1.cell? ⟨b, o, none⟩ = v0.cell? ⟨b, o, none⟩ := fun b o hb => E1.cell (p := ⟨b, o, none⟩) (by show b < _; omega); have KR1 := HR_0.out.below E1; have x0 := KR1.cell 0; have x1 := KR1.cell 1; have x2 := KR1.cell 2; have x3 := KR1.cell 3; have y0 := KR1.frozen 0; have y1 := KR1.frozen 1; have y2 := KR1.frozen 2; have y3 := KR1.frozen 3; have yl := KR1.lt; clear hO b1) | (go_at_call 106; have hcc := copyDisk_any KB WB 22 cB dB mb rb wb v0.drew ((On.below_of (fun _ hb => hB0.out.below hb)).drew).out hb; (with_reducible refine hcc.mono ?_); clear hcc; rintro e v1 ⟨KB', cB', WB', dB', rfl, hO, b1⟩; have E1 : Below v0.heap.size v0 v1 := tb_dr1 b1; have HB1 : Hid (On (Rg v0.heap.size v1.heap.size) (fun x => Dk x KB' 22 WB' mb rb wb) v1) := Lib.hid hO; have hS1 : ∀ b o, b < gR → v1.cell? ⟨b, o, none⟩ = v0.cell? ⟨b, o, none⟩ := fun b o hb => E1.cell (p := ⟨b, o, none⟩) (by show b < _; omega); have KR1 := HR_0.out.below E1; have x0 := KR1.cell 0; have x1 := KR1.cell 1; have x2 := KR1.cell 2; have x3 := KR1.cell 3; have y0 := KR1.frozen 0; have y1 := KR1.frozen 1; have y2 := KR1.frozen 2; have y3 := KR1.frozen 3; have yl := KR1.lt; clear hO b1))
  all_goals
    rename_i hHx
    clear hHx hS0 hS1 hS2
    have F2 := bthen (bthen f0 E1) E2
    go_wp21
    refine bodyPost_ret (v := .agg #[.slice KA' 22 cA', .slice WA' ma dA', .slice KB' 22 cB', .slice WB' mb dB']) (by simp [results, Tryz.results63, go_sem, *]) rfl ?_
    exact ⟨KA', cA', WA', dA', KB', cB', WB', dB', rfl, ((((((HAF.out.and HBF.out).far (g := gR) (Rg.no (by omega)) 0 _).far (g := gR) (Rg.no (by omega)) 1 _).far (g := gR) (Rg.no (by omega)) 2 _).far (g := gR) (Rg.no (by omega)) 3 _).sub (Rg.sub (by omega) (by simp only [size_set]; omega))), (((F2.setCell (p := ⟨gR, 0, none⟩) (show w.heap.size ≤ gR by omega) _).setCell (p := ⟨gR, 1, none⟩) (show w.heap.size ≤ gR by omega) _).setCell (p := ⟨gR, 2, none⟩) (show w.heap.size ≤ gR by omega) _).setCell (p := ⟨gR, 3, none⟩) (show w.heap.size ≤ gR by omega) _⟩
end Go.Proofs.YtbheflinchabgaaGreatDoor
namespace Go.Proofs.YtbheflinchabgaaGreatDoor
set_option linter.unusedSimpArgs false
set_option linter.unusedVariables false
attribute [local go_sem] n_lt2 n_lt3 n_lt4 n_le2 n_le3
open Go.RowKit
attribute [local go_sem] Ext.cell Ext.frozen
/-- A node of the call's own: its book and what it owes may grow in place. -/
structure Own3 (w : World) (lo : Nat) (L S O : Option Addr) (lc oc n no : Nat) (es : List En) (D : Nat) : Prop where
  l : Row w lo 76 9 L n lc (EN es)
  o : Row w lo 71 4 O no oc (oweL es D)
  ls : ∀ a b, L = some a → S = some b → a.block ≠ b.block
  lo : ∀ a b, L = some a → O = some b → a.block ≠ b.block
  so : ∀ a b, S = some a → O = some b → a.block ≠ b.block
def RetLogO (w : World) (m n ns no : Nat) (es : List En) (D : Nat) (z : List Int) (e : Ending) (w' : World) : Prop :=
  ∃ KA cA WA dA KB cB WB dB H hc X xc L lc S sc O oc, e = .returned (.agg #[.slice KA 22 cA, .slice WA m dA, .slice KB 22 cB, .slice WB m dB, .int .i64 0, .int .i64 0, .int .i64 0, .slice H 0 hc, .int .i64 0, .int .i64 0, .int .i64 0, .slice X 0 xc, .bool false, .int .i64 0, .int .i64 0, .slice L n lc, .slice S ns sc, .int .i64 (D : Nat), .slice O no oc]) ∧ On (Rg w.heap.size w'.heap.size) (fun x => LgW x KA WA KB WB L S O lc m n ns no es D z) w' ∧ Own3 w' w.heap.size L S O lc oc n no es D ∧ Below w.heap.size w w'
theorem copyLog_end {w u : World} {x0 x1 lL lS lO gR : Nat} {cs : Array Value} {KA : Option Addr} {cA : Nat} {WA : Option Addr} {dA : Nat} {KB : Option Addr} {cB : Nat} {WB : Option Addr} {dB : Nat} {H : Option Addr} {hc : Nat} {X : Option Addr} {xc : Nat} {L : Option Addr} {lc : Nat} {S : Option Addr} {sc : Nat} {O : Option Addr} {oc : Nat} {m n ns no D : Nat} {es : List En} {z : List Int}
    (hT : On (Rg x0 x1) (fun x => Dk x KA 22 WA m (diskL z (es.take D)) (waitD es D) ∧ Dk x KB 22 WB m (diskL z (es.take D)) (waitD es D)) u)
    (RL : Row u lL 76 9 L n lc (EN es)) (RS : Row u lS 97 3 S ns sc (markL es)) (RO : Row u lO 71 4 O no oc (oweL es D))
    (hx : w.heap.size ≤ x0 ∧ x1 ≤ u.heap.size ∧ w.heap.size ≤ lL ∧ w.heap.size ≤ lS ∧ w.heap.size ≤ lO ∧ w.heap.size ≤ gR ∧ gR < x0 ∧ gR < lL ∧ gR < lS ∧ gR < lO)
    (ls : ∀ a b, L = some a → S = some b → a.block ≠ b.block) (lo : ∀ a b, L = some a → O = some b → a.block ≠ b.block) (so : ∀ a b, S = some a → O = some b → a.block ≠ b.block)
    (hm : m = waitN es D) (hn : n = es.length) (hs : ns = markN es) (ho : no = oweN es D) (hp : entsP es ∧ blankL z ∧ D ≤ es.length ∧ es.length ≤ D + 1) (f : Below w.heap.size w u) :
    RetLogO w m n ns no es D z (.returned (.agg #[.slice KA 22 cA, .slice WA m dA, .slice KB 22 cB, .slice WB m dB, .int .i64 0, .int .i64 0, .int .i64 0, .slice H 0 hc, .int .i64 0, .int .i64 0, .int .i64 0, .slice X 0 xc, .bool false, .int .i64 0, .int .i64 0, .slice L n lc, .slice S ns sc, .int .i64 (D : Nat), .slice O no oc])) (u.setRow gR cs) := by
  obtain ⟨a1, a2, a3, a4, a5, a6, a7, a8, a9, a10⟩ := hx
  have RL2 := RL.rowFar (g := gR) (fun a ha => by have := RL.ge a ha; omega) cs
  have RO2 := RO.rowFar (g := gR) (fun a ha => by have := RO.ge a ha; omega) cs
  have hcap := RL.cap_le
  refine ⟨KA, cA, WA, dA, KB, cB, WB, dB, H, hc, X, xc, L, lc, S, sc, O, oc, rfl, ?_, ⟨Row.mono RL2 a3, Row.mono RO2 a5, ls, lo, so⟩, Below.rowFar f a6 cs⟩
  have h1 := (hT.rowFar (g := gR) (Rg.no (by omega)) cs).sub (Rg.sub (c := w.heap.size) (d := (u.setRow gR cs).heap.size) a1 (by rw [setRow_size]; exact a2))
  have h2 := ((RL.on.map (fun v hv => hv.sl)).rowFar (g := gR) (Rg.no (by omega)) cs).sub (Rg.sub (c := w.heap.size) (d := (u.setRow gR cs).heap.size) a3 (by rw [setRow_size]; exact Nat.le_refl _))
  have h3 := ((RS.on.map (fun v hv => hv.sl)).rowFar (g := gR) (Rg.no (by omega)) cs).sub (Rg.sub (c := w.heap.size) (d := (u.setRow gR cs).heap.size) a4 (by rw [setRow_size]; exact Nat.le_refl _))
  have h4 := ((RO.on.map (fun v hv => hv.sl)).rowFar (g := gR) (Rg.no (by omega)) cs).sub (Rg.sub (c := w.heap.size) (d := (u.setRow gR cs).heap.size) a5 (by rw [setRow_size]; exact Nat.le_refl _))
  exact (h1.and (h2.and (h3.and h4))).map (fun x h => ⟨h.1.1, h.1.2, h.2.1, h.2.2.1, h.2.2.2, hm, hn, hs, ho, hcap, hp.1, hp.2.1, hp.2.2.1, hp.2.2.2⟩)
set_option maxRecDepth 100000 in
set_option maxHeartbeats 8000000 in
theorem copyLog_yes (KA : Option Addr) (cA : Nat) (WA : Option Addr) (dA : Nat) (KB : Option Addr) (cB : Nat) (WB : Option Addr) (dB : Nat) (H : Option Addr) (hc : Nat) (X : Option Addr) (xc : Nat) (L : Option Addr) (lc : Nat) (S : Option Addr) (sc : Nat) (O : Option Addr) (oc : Nat) (m n ns no D : Nat) (es : List En) (z : List Int) (w : World) (hG : LgW w KA WA KB WB L S O lc m n ns no es D z) : Calls Tryz.prog 29 #[.agg #[.slice KA 22 cA, .slice WA m dA, .slice KB 22 cB, .slice WB m dB, .int .i64 0, .int .i64 0, .int .i64 0, .slice H 0 hc, .int .i64 0, .int .i64 0, .int .i64 0, .slice X 0 xc, .bool false, .int .i64 0, .int .i64 0, .slice L n lc, .slice S ns sc, .int .i64 (D : Nat), .slice O no oc]] w (RetLogO w m n ns no es D z) := by
  have HNN := Lib.hid hG.hn
  have HSS := Lib.hid hG.hs
  have HOO := Lib.hid hG.ho
  have HMM := Lib.hid hG.hm
  have HPL := Lib.hid (And.intro hG.p (And.intro hG.z (And.intro hG.d1 hG.d2)))
  have hn8 : n ≤ 8 := by have := hG.p.1; rw [← hG.hn] at this; exact this
  have hm1 : m ≤ 1 := by rw [hG.hm]; exact waitN_le es D
  have hs1 : ns ≤ 1 := by rw [hG.hs]; exact markN_le es
  have ho1 : no ≤ 1 := by rw [hG.ho]; exact oweN_le es D
  have HIG : Hid (On (Rg 0 w.heap.size) (fun x => LgW x KA WA KB WB L S O lc m n ns no es D z) w) := Lib.hid (On.below_of (fun _ hb => (hG).below hb))
  clear hG
  go_enter Tryz.func29, Tryz.ntmps29
  go_upto_region 1 with fail
  obtain ⟨v0, hv0⟩ : ∃ x : World, x = ((w.alloc (.cells #[.slice KA 22 cA, .slice WA m dA, .slice KB 22 cB, .slice WB m dB, .int .i64 0, .int .i64 0, .int .i64 0, .slice H 0 hc, .int .i64 0, .int .i64 0, .int .i64 0, .slice X 0 xc, .bool false, .int .i64 0, .int .i64 0, .slice L n lc, .slice S ns sc, .int .i64 (D : Nat), .slice O no oc] 51)).alloc (.cells #[.slice none 0 0, .slice none 0 0, .slice none 0 0, .slice none 0 0, .int .i64 0, .int .i64 0, .int .i64 0, .slice none 0 0, .int .i64 0, .int .i64 0, .int .i64 0, .slice none 0 0, .bool false, .int .i64 0, .int .i64 0, .slice none 0 0, .slice none 0 0, .int .i64 0, .slice none 0 0] 51)) := ⟨_, rfl⟩
  rw [← hv0]
  have f0 : Below w.heap.size w v0 := by rw [hv0]; (repeat' (first | (with_reducible exact Below.refl _ _) | (with_reducible assumption) | (with_reducible refine Below.alloc ?_ ?_ _) | (with_reducible refine Below.drew ?_) | (with_reducible refine Below.setCell ?_ ?_ _) | (with_reducible refine bstep (by assumption) ?_ ?_) | (with_reducible exact Nat.le_refl _) | omega | (simp [*]; done) | (simp [*]; omega)))
  have z0 : w.heap.size + 2 ≤ v0.heap.size := by rw [hv0]; simp [size_set]
  have HN_0 : Hid (Blk v0 w.heap.size 51 #[.slice KA 22 cA, .slice WA m dA, .slice KB 22 cB, .slice WB m dB, .int .i64 0, .int .i64 0, .int .i64 0, .slice H 0 hc, .int .i64 0, .int .i64 0, .int .i64 0, .slice X 0 xc, .bool false, .int .i64 0, .int .i64 0, .slice L n lc, .slice S ns sc, .int .i64 (D : Nat), .slice O no oc]) := by rw [hv0]; exact Lib.hid (((Blk.new_at _ _ _ _ (by simp [size_set]))).alloc _)
  have HR_0 : Hid (Blk v0 (w.heap.size + 1) 51 #[.slice none 0 0, .slice none 0 0, .slice none 0 0, .slice none 0 0, .int .i64 0, .int .i64 0, .int .i64 0, .slice none 0 0, .int .i64 0, .int .i64 0, .int .i64 0, .slice none 0 0, .bool false, .int .i64 0, .int .i64 0, .slice none 0 0, .slice none 0 0, .int .i64 0, .slice none 0 0]) := by rw [hv0]; exact Lib.hid ((Blk.new_at _ _ _ _ (by simp [size_set])))
  clear hv0
  obtain ⟨gR, hgR⟩ : ∃ q, q = w.heap.size + 1 := ⟨_, rfl⟩
  rw [← hgR] at HR_0
  try rw [← hgR]
  have lgR : w.heap.size ≤ gR := by omega
  have mgR : gR < v0.heap.size := by omega
  have ngR : ∀ k, w.heap.size ≤ k → k ≠ gR → True := fun _ _ _ => trivial
  clear ngR
  obtain ⟨gN, hgN⟩ : ∃ q, q = w.heap.size := ⟨_, rfl⟩
  rw [← hgN] at HN_0
  try rw [← hgN]
  have lgN : w.heap.size ≤ gN := by omega
  have mgN : gN < v0.heap.size := by omega
  have ngN : ∀ k, w.heap.size ≤ k → k ≠ gN → True := fun _ _ _ => trivial
  clear ngN
  have nnNR : gN < gR := by omega
  clear hgN
  clear hgR
  have hG0 : ∀ X : World, Below v0.heap.size v0 X → LgW X KA WA KB WB L S O lc m n ns no es D z := fun X hb => (HIG.out.inB (bthen f0 hb) (fun _ hk => hk.2)).out
  have HG0 := Lib.hid hG0
  clear hG0
  have HNR := Lib.hid (And.intro HN_0.out HR_0.out)
  clear HN_0 HR_0
  obtain ⟨iA, hiA, hzA, hsA, hyA⟩ := info_parts info_AckV
  refine wp_region_held_drew (S := fun w' => Blk w' gN 51 #[.slice KA 22 cA, .slice WA m dA, .slice KB 22 cB, .slice WB m dB, .int .i64 0, .int .i64 0, .int .i64 0, .slice H 0 hc, .int .i64 0, .int .i64 0, .int .i64 0, .slice X 0 xc, .bool false, .int .i64 0, .int .i64 0, .slice L n lc, .slice S ns sc, .int .i64 (D : Nat), .slice O no oc]) (by kernel_rfl) HNR.out.1.drew (fun hS => ?_)
  obtain ⟨u0, hu0⟩ : ∃ x : World, x = v0.drew := ⟨_, rfl⟩
  rw [← hu0] at hS ⊢
  have E0 : Below v0.heap.size v0 u0 := by rw [hu0]; exact Below.drew (Below.refl _ _)
  have y0 := E0.size
  have y0' : u0.heap.size ≤ v0.heap.size := by rw [hu0]; exact Nat.le_refl _
  clear hu0
  refine wpAnyH_take (i := 0) (oi := _) (v := ?_) rfl (by kernel_rfl) (by kernel_rfl) (by kernel_rfl) (fun _ _ _ h => h) (Or.inl ⟨by rfl, ?_⟩) hS ?_
  rotate_left 1
  · intro w hSw; clear hSw; (go_simp <;> with_reducible rfl)
  change wpAnyH _ _ _ _ _ _ _ (Act.put _ (some 3) _) _
  simp only [Act.put, List.setIfInBounds_toArray, List.set_cons_zero, List.set_cons_succ]
  refine wpAnyH_take (i := 1) (oi := _) (v := _) rfl (by kernel_rfl) (by kernel_rfl) (by kernel_rfl) (fun _ _ _ h => h) (yieldsIf_load_mid (by rfl) 42 (.tmp 3) rfl gN 0 rfl [.slice KA 22 cA, .slice WA m dA, .slice KB 22 cB, .slice WB m dB] _ (fun w' h => blk_part h 0 4 _ rfl) Tryz.underlying42 rfl (by kernel_rfl)) hS ?_
  change wpAnyH _ _ _ _ _ _ _ (Act.put _ (some 4) _) _
  simp only [Act.put, List.setIfInBounds_toArray, List.set_cons_zero, List.set_cons_succ]
  refine wpAnyH_take (i := 3) (oi := _) (v := ?_) rfl (by kernel_rfl) (by kernel_rfl) (by kernel_rfl) (fun _ _ _ h => h) (Or.inl ⟨by rfl, ?_⟩) hS ?_
  rotate_left 1
  · intro w hSw; clear hSw; (go_simp <;> with_reducible rfl)
  change wpAnyH _ _ _ _ _ _ _ (Act.put _ (some 6) _) _
  simp only [Act.put, List.setIfInBounds_toArray, List.set_cons_zero, List.set_cons_succ]
  refine wpAnyH_take (i := 4) (oi := _) (v := _) rfl (by kernel_rfl) (by kernel_rfl) (by kernel_rfl) (fun _ _ _ h => h) (yieldsIf_load_mid (by rfl) 45 (.tmp 6) rfl gN 4 rfl [.int .i64 0, .int .i64 0, .int .i64 0, .slice H 0 hc] _ (fun w' h => blk_part h 4 4 _ rfl) Tryz.underlying45 rfl (by kernel_rfl)) hS ?_
  change wpAnyH _ _ _ _ _ _ _ (Act.put _ (some 7) _) _
  simp only [Act.put, List.setIfInBounds_toArray, List.set_cons_zero, List.set_cons_succ]
  refine wpAnyH_take (i := 6) (oi := _) (v := ?_) rfl (by kernel_rfl) (by kernel_rfl) (by kernel_rfl) (fun _ _ _ h => h) (Or.inl ⟨by rfl, ?_⟩) hS ?_
  rotate_left 1
  · intro w hSw; clear hSw; (go_simp <;> with_reducible rfl)
  change wpAnyH _ _ _ _ _ _ _ (Act.put _ (some 9) _) _
  simp only [Act.put, List.setIfInBounds_toArray, List.set_cons_zero, List.set_cons_succ]
  refine wpAnyH_take (i := 7) (oi := _) (v := _) rfl (by kernel_rfl) (by kernel_rfl) (by kernel_rfl) (fun _ _ _ h => h) (yieldsIf_load_mid (by rfl) 45 (.tmp 9) rfl gN 8 rfl [.int .i64 0, .int .i64 0, .int .i64 0, .slice X 0 xc] _ (fun w' h => blk_part h 8 4 _ rfl) Tryz.underlying45 rfl (by kernel_rfl)) hS ?_
  change wpAnyH _ _ _ _ _ _ _ (Act.put _ (some 10) _) _
  simp only [Act.put, List.setIfInBounds_toArray, List.set_cons_zero, List.set_cons_succ]
  refine wpAnyH_take (i := 9) (oi := _) (v := ?_) rfl (by kernel_rfl) (by kernel_rfl) (by kernel_rfl) (fun _ _ _ h => h) (Or.inl ⟨by rfl, ?_⟩) hS ?_
  rotate_left 1
  · intro w hSw; clear hSw; (go_simp <;> with_reducible rfl)
  change wpAnyH _ _ _ _ _ _ _ (Act.put _ (some 12) _) _
  simp only [Act.put, List.setIfInBounds_toArray, List.set_cons_zero, List.set_cons_succ]
  refine wpAnyH_take (i := 10) (oi := _) (v := .bool false) rfl (by kernel_rfl) (by kernel_rfl) (by kernel_rfl) (fun _ _ _ h => h) (Or.inl ⟨by rfl, fun w' h => by have c : w'.cell? ⟨gN, 12, none⟩ = some (.bool false) := Blk.cell h 12; clear h; go_simp⟩) hS ?_
  change wpAnyH _ _ _ _ _ _ _ (Act.put _ (some 13) _) _
  simp only [Act.put, List.setIfInBounds_toArray, List.set_cons_zero, List.set_cons_succ]
  refine wpAnyH_take (i := 11) (oi := _) (v := ?_) rfl (by kernel_rfl) (by kernel_rfl) (by kernel_rfl) (fun _ _ _ h => h) (Or.inl ⟨by rfl, ?_⟩) hS ?_
  rotate_left 1
  · intro w hSw; clear hSw; (go_simp <;> with_reducible rfl)
  change wpAnyH _ _ _ _ _ _ _ (Act.put _ (some 14) _) _
  simp only [Act.put, List.setIfInBounds_toArray, List.set_cons_zero, List.set_cons_succ]
  refine wpAnyH_take (i := 12) (oi := _) (v := _) rfl (by kernel_rfl) (by kernel_rfl) (by kernel_rfl) (fun _ _ _ h => h) (yieldsIf_load_mid (by rfl) 48 (.tmp 14) rfl gN 13 rfl [.int .i64 0, .int .i64 0, .slice L n lc] _ (fun w' h => blk_part h 13 3 _ rfl) Tryz.underlying48 rfl (by kernel_rfl)) hS ?_
  change wpAnyH _ _ _ _ _ _ _ (Act.put _ (some 15) _) _
  simp only [Act.put, List.setIfInBounds_toArray, List.set_cons_zero, List.set_cons_succ]
  refine wpAnyH_take (i := 14) (oi := _) (v := ?_) rfl (by kernel_rfl) (by kernel_rfl) (by kernel_rfl) (fun _ _ _ h => h) (Or.inl ⟨by rfl, ?_⟩) hS ?_
  rotate_left 1
  · intro w hSw; clear hSw; (go_simp <;> with_reducible rfl)
  change wpAnyH _ _ _ _ _ _ _ (Act.put _ (some 17) _) _
  simp only [Act.put, List.setIfInBounds_toArray, List.set_cons_zero, List.set_cons_succ]
  refine wpAnyH_take (i := 15) (oi := _) (v := .slice S ns sc) rfl (by kernel_rfl) (by kernel_rfl) (by kernel_rfl) (fun _ _ _ h => h) (Or.inl ⟨by rfl, fun w' h => by have c : w'.cell? ⟨gN, 16, none⟩ = some (.slice S ns sc) := Blk.cell h 16; clear h; go_simp⟩) hS ?_
  change wpAnyH _ _ _ _ _ _ _ (Act.put _ (some 18) _) _
  simp only [Act.put, List.setIfInBounds_toArray, List.set_cons_zero, List.set_cons_succ]
  refine wpAnyH_take (i := 17) (oi := _) (v := ?_) rfl (by kernel_rfl) (by kernel_rfl) (by kernel_rfl) (fun _ _ _ h => h) (Or.inl ⟨by rfl, ?_⟩) hS ?_
  rotate_left 1
  · intro w hSw; clear hSw; (go_simp <;> with_reducible rfl)
  change wpAnyH _ _ _ _ _ _ _ (Act.put _ (some 20) _) _
  simp only [Act.put, List.setIfInBounds_toArray, List.set_cons_zero, List.set_cons_succ]
  refine wpAnyH_take (i := 18) (oi := _) (v := .int .i64 (D : Nat)) rfl (by kernel_rfl) (by kernel_rfl) (by kernel_rfl) (fun _ _ _ h => h) (Or.inl ⟨by rfl, fun w' h => by have c : w'.cell? ⟨gN, 17, none⟩ = some (.int .i64 (D : Nat)) := Blk.cell h 17; clear h; go_simp⟩) hS ?_
  change wpAnyH _ _ _ _ _ _ _ (Act.put _ (some 21) _) _
  simp only [Act.put, List.setIfInBounds_toArray, List.set_cons_zero, List.set_cons_succ]
  refine wpAnyH_take (i := 20) (oi := _) (v := ?_) rfl (by kernel_rfl) (by kernel_rfl) (by kernel_rfl) (fun _ _ _ h => h) (Or.inl ⟨by rfl, ?_⟩) hS ?_
  rotate_left 1
  · intro w hSw; clear hSw; (go_simp <;> with_reducible rfl)
  change wpAnyH _ _ _ _ _ _ _ (Act.put _ (some 23) _) _
  simp only [Act.put, List.setIfInBounds_toArray, List.set_cons_zero, List.set_cons_succ]
  refine wpAnyH_take (i := 21) (oi := _) (v := .slice O no oc) rfl (by kernel_rfl) (by kernel_rfl) (by kernel_rfl) (fun _ _ _ h => h) (Or.inl ⟨by rfl, fun w' h => by have c : w'.cell? ⟨gN, 18, none⟩ = some (.slice O no oc) := Blk.cell h 18; clear h; go_simp⟩) hS ?_
  change wpAnyH _ _ _ _ _ _ _ (Act.put _ (some 24) _) _
  simp only [Act.put, List.setIfInBounds_toArray, List.set_cons_zero, List.set_cons_succ]
  refine wpAnyH_ready (rs := [2, 19]) (by kernel_rfl) (by simp) ?_
  refine AllReadyH.cons rfl (fun K hK => ?_) ?_
  · skip
    go_simp
    go_at_call 63
    refine (copyTwo_any KA WA KB WB cA dA cB dB m m (diskL z (es.take D)) (diskL z (es.take D)) (waitD es D) (waitD es D) _ (HG0.out _ E0).a (HG0.out _ E0).b hm1 hm1).mono ?_
    rintro e u1 ⟨KA', cA', WA', dA', KB', cB', WB', dB', rfl, hO1, e1⟩
    have E1 : Below v0.heap.size v0 u1 := bthen E0 e1
    have y1 := e1.size
    have HT1 := Lib.hid hO1
    clear hO1
    refine hK.out _ _ (HNR.out.1.below E1) (fun hS => ?_)
    clear hK K
    try change wpAnyH _ _ _ _ _ _ _ (Act.put _ (some 5) _) _
    try simp only [Act.put, List.setIfInBounds_toArray, List.set_cons_zero, List.set_cons_succ]
    refine wpAnyH_ready (rs := [5, 19]) (by kernel_rfl) (by simp) ?_
    refine AllReadyH.cons rfl (fun K hK => ?_) ?_
    · skip
      go_simp
      go_at_call 64
      refine (copyHead_zero H hc _).mono ?_
      rintro e u2 ⟨H', hc', rfl, e2⟩
      have E2 : Below v0.heap.size v0 u2 := bthen E1 e2
      have y2 := e2.size
      refine hK.out _ _ (HNR.out.1.below E2) (fun hS => ?_)
      clear hK K
      try change wpAnyH _ _ _ _ _ _ _ (Act.put _ (some 8) _) _
      try simp only [Act.put, List.setIfInBounds_toArray, List.set_cons_zero, List.set_cons_succ]
      refine wpAnyH_ready (rs := [8, 19]) (by kernel_rfl) (by simp) ?_
      refine AllReadyH.cons rfl (fun K hK => ?_) ?_
      · skip
        go_simp
        go_at_call 64
        refine (copyHead_zero X xc _).mono ?_
        rintro e u3 ⟨X', xc', rfl, e3⟩
        have E3 : Below v0.heap.size v0 u3 := bthen E2 e3
        have y3 := e3.size
        refine hK.out _ _ (HNR.out.1.below E3) (fun hS => ?_)
        clear hK K
        try change wpAnyH _ _ _ _ _ _ _ (Act.put _ (some 11) _) _
        try simp only [Act.put, List.setIfInBounds_toArray, List.set_cons_zero, List.set_cons_succ]
        refine wpAnyH_ready (rs := [13, 19]) (by kernel_rfl) (by simp) ?_
        refine AllReadyH.cons rfl (fun K hK => ?_) ?_
        · skip
          go_simp
          go_at_call 65
          refine (copyBook_zero L n lc (EN es) _ (HG0.out _ E3).l (by omega)).mono ?_
          rintro e u4 ⟨L', lc', rfl, RL, e4⟩
          have E4 : Below v0.heap.size v0 u4 := bthen E3 e4
          have y4 := e4.size
          have HL4 := Lib.hid (And.intro RL RL.lt)
          clear RL
          refine hK.out _ _ (HNR.out.1.below E4) (fun hS => ?_)
          clear hK K
          try change wpAnyH _ _ _ _ _ _ _ (Act.put _ (some 16) _) _
          try simp only [Act.put, List.setIfInBounds_toArray, List.set_cons_zero, List.set_cons_succ]
          refine wpAnyH_ready (rs := [16, 19]) (by kernel_rfl) (by simp) ?_
          refine AllReadyH.cons rfl (fun K hK => ?_) ?_
          · skip
            go_simp
            go_at_call 66
            refine (copySeen_any S ns sc (markL es) _ (HG0.out _ E4).s (by omega)).mono ?_
            rintro e u5 ⟨S', sc', rfl, RS, e5⟩
            have E5 : Below v0.heap.size v0 u5 := bthen E4 e5
            have y5 := e5.size
            have HS5 := Lib.hid (And.intro RS RS.lt)
            clear RS
            refine hK.out _ _ (HNR.out.1.below E5) (fun hS => ?_)
            clear hK K
            try change wpAnyH _ _ _ _ _ _ _ (Act.put _ (some 19) _) _
            try simp only [Act.put, List.setIfInBounds_toArray, List.set_cons_zero, List.set_cons_succ]
            refine wpAnyH_ready (rs := [19]) (by kernel_rfl) (by simp) ?_
            refine AllReadyH.cons rfl (fun K hK => ?_) ?_
            · skip
              go_simp
              obtain ⟨u6, hu⟩ : ∃ x : World, x = u5.alloc (.cells #[] 71) := ⟨_, rfl⟩
              rw [← hu]
              have e6 : Below u5.heap.size u5 u6 := by rw [hu]; exact (Below.refl _ _).alloc (Nat.le_refl _) _
              have KE : Blk u6 u5.heap.size 71 #[] := by rw [hu]; exact Blk.new u5 _ _
              clear hu
              obtain ⟨gE, hgE⟩ : ∃ q, q = u5.heap.size := ⟨_, rfl⟩
              rw [← hgE] at KE ⊢
              have HGE := Lib.hid hgE
              have lE := KE.lt
              clear hgE
              have HKE := Lib.hid (fun (X : World) (hb : Below u6.heap.size u6 X) => KE.below hb)
              clear KE
              have E6 : Below v0.heap.size v0 u6 := bthen E5 e6
              have y6 := e6.size
              refine hK.out _ _ (HNR.out.1.below E6) (fun hS => ?_)
              clear hK K
              try change wpAnyH _ _ _ _ _ _ _ (Act.put _ (some 22) _) _
              try simp only [Act.put, List.setIfInBounds_toArray, List.set_cons_zero, List.set_cons_succ]
              refine wpAnyH_ready (rs := [22]) (by kernel_rfl) (by simp) ?_
              refine AllReadyH.cons rfl (fun K hK => ?_) ?_
              · skip
                rw [if_pos (by rfl)]
                refine wp_append_copy rfl (.tmp 22) (.tmp 24) 49 rfl 71 iA _ 4 32 Tryz.underlying49 hiA hzA hsA hyA (by first | kernel_rfl | simp [Value.cells]) (by decide) gE rfl gE O no oc (oweL es D) rfl (by unfold maxLen; omega) (by omega) (HKE.out u6 (Below.refl u6.heap.size u6)) (Nat.le_refl _) (HG0.out _ E6).o ?_
                intro g6 c6 u7 R6 e7 l6 o6
                have E7 : Below v0.heap.size v0 u7 := bthen E6 e7
                have y7 := e7.size
                have HO6 := Lib.hid R6
                clear R6
                refine hK.out _ _ (HNR.out.1.below E7) (fun hS => ?_)
                clear hK K
                try change wpAnyH _ _ _ _ _ _ _ (Act.put _ (some 25) _) _
                try simp only [Act.put, List.setIfInBounds_toArray, List.set_cons_zero, List.set_cons_succ]
                refine wpAnyH_take (i := 23) (oi := _) (v := ?_) rfl (by kernel_rfl) (by kernel_rfl) (by kernel_rfl) (fun _ _ _ h => h) (Or.inl ⟨by rfl, ?_⟩) hS ?_
                rotate_left 1
                · intro w hSw; clear hSw; (go_simp <;> with_reducible rfl)
                change wpAnyH _ _ _ _ _ _ _ (Act.put _ (some 26) _) _
                simp only [Act.put, List.setIfInBounds_toArray, List.set_cons_zero, List.set_cons_succ]
                refine wpAnyH_ready (rs := [24]) (by kernel_rfl) (by simp) ?_
                refine AllReadyH.cons rfl (fun K hK => ?_) ?_
                · skip
                  rw [if_pos (by rfl)]
                  have HRf := HNR.out.2.below E7
                  refine wp_store_row 51 (.tmp 2) (.tmp 26) rfl gR #[.slice KA' 22 cA', .slice WA' m dA', .slice KB' 22 cB', .slice WB' m dB', .int .i64 0, .int .i64 0, .int .i64 0, .slice H' 0 hc', .int .i64 0, .int .i64 0, .int .i64 0, .slice X' 0 xc', .bool false, .int .i64 0, .int .i64 0, .slice L' n lc', .slice S' ns sc', .int .i64 (D : Nat), .slice (some ⟨g6, 0, none⟩) no c6] rfl rfl 51 #[.slice none 0 0, .slice none 0 0, .slice none 0 0, .slice none 0 0, .int .i64 0, .int .i64 0, .int .i64 0, .slice none 0 0, .int .i64 0, .int .i64 0, .int .i64 0, .slice none 0 0, .bool false, .int .i64 0, .int .i64 0, .slice none 0 0, .slice none 0 0, .int .i64 0, .slice none 0 0] HRf (by kernel_rfl) rfl (by simp [Value.oneCell']) ?_
                  refine hK.out _ _ (hS.rowFar (show gN ≠ gR by omega) _) (fun hS => ?_)
                  clear hK K
                  try change wpAnyH _ _ _ _ _ _ _ (Act.put _ none _) _
                  try simp only [Act.put, List.setIfInBounds_toArray, List.set_cons_zero, List.set_cons_succ]
                  refine wpAnyH_done (by kernel_rfl) ?_ _
                  go_wp21
                  refine bodyPost_ret (v := .agg #[.slice KA' 22 cA', .slice WA' m dA', .slice KB' 22 cB', .slice WB' m dB', .int .i64 0, .int .i64 0, .int .i64 0, .slice H' 0 hc', .int .i64 0, .int .i64 0, .int .i64 0, .slice X' 0 xc', .bool false, .int .i64 0, .int .i64 0, .slice L' n lc', .slice S' ns sc', .int .i64 (D : Nat), .slice (some ⟨g6, 0, none⟩) no c6]) (results_cell_row rfl _ _ gR 51 #[.slice KA' 22 cA', .slice WA' m dA', .slice KB' 22 cB', .slice WB' m dB', .int .i64 0, .int .i64 0, .int .i64 0, .slice H' 0 hc', .int .i64 0, .int .i64 0, .int .i64 0, .slice X' 0 xc', .bool false, .int .i64 0, .int .i64 0, .slice L' n lc', .slice S' ns sc', .int .i64 (D : Nat), .slice (some ⟨g6, 0, none⟩) no c6] (0, 0) _ rfl (HRf.setRow _) Tryz.underlying51 rfl (by kernel_rfl)) rfl ?_
                  have hge := HGE.out
                  have RLf := HL4.out.1.below (bthen ((bthen ((bthen (Below.refl u4.heap.size u4) e5)) e6)) e7)
                  have RSf := HS5.out.1.below (bthen ((bthen (Below.refl u5.heap.size u5) e6)) e7)
                  exact copyLog_end (x0 := u0.heap.size) (x1 := u1.heap.size) (HT1.out.below (bthen ((bthen ((bthen ((bthen ((bthen ((bthen (Below.refl u1.heap.size u1) e2)) e3)) e4)) e5)) e6)) e7)) RLf RSf HO6.out ⟨by omega, by omega, by omega, by omega, by omega, by omega, by omega, by omega, by omega, by omega⟩
                    (fun a b ha hb => by have h1 := HL4.out.2 a ha; have h2 := HS5.out.1.ge b hb; omega)
                    (fun a b ha hb => by have h1 := HL4.out.2 a ha; have h3 := HL4.out.1.ge a ha; cases hb; rcases o6 with h2 | h2 <;> (show a.block ≠ g6; omega))
                    (fun a b ha hb => by have h1 := HS5.out.2 a ha; have h3 := HS5.out.1.ge a ha; cases hb; rcases o6 with h2 | h2 <;> (show a.block ≠ g6; omega))
                    HMM.out HNN.out HSS.out HOO.out HPL.out (bthen f0 E7)
                exact AllReadyH.nil
              exact AllReadyH.nil
            exact AllReadyH.nil
          refine AllReadyH.cons rfl (fun K hK => ?_) ?_
          · skip
            go_simp
            obtain ⟨u5, hu⟩ : ∃ x : World, x = u4.alloc (.cells #[] 71) := ⟨_, rfl⟩
            rw [← hu]
            have e5 : Below u4.heap.size u4 u5 := by rw [hu]; exact (Below.refl _ _).alloc (Nat.le_refl _) _
            have KE : Blk u5 u4.heap.size 71 #[] := by rw [hu]; exact Blk.new u4 _ _
            clear hu
            obtain ⟨gE, hgE⟩ : ∃ q, q = u4.heap.size := ⟨_, rfl⟩
            rw [← hgE] at KE ⊢
            have HGE := Lib.hid hgE
            have lE := KE.lt
            clear hgE
            have HKE := Lib.hid (fun (X : World) (hb : Below u5.heap.size u5 X) => KE.below hb)
            clear KE
            have E5 : Below v0.heap.size v0 u5 := bthen E4 e5
            have y5 := e5.size
            refine hK.out _ _ (HNR.out.1.below E5) (fun hS => ?_)
            clear hK K
            try change wpAnyH _ _ _ _ _ _ _ (Act.put _ (some 22) _) _
            try simp only [Act.put, List.setIfInBounds_toArray, List.set_cons_zero, List.set_cons_succ]
            refine wpAnyH_ready (rs := [16]) (by kernel_rfl) (by simp) ?_
            refine AllReadyH.cons rfl (fun K hK => ?_) ?_
            · skip
              go_simp
              go_at_call 66
              refine (copySeen_any S ns sc (markL es) _ (HG0.out _ E5).s (by omega)).mono ?_
              rintro e u6 ⟨S', sc', rfl, RS, e6⟩
              have E6 : Below v0.heap.size v0 u6 := bthen E5 e6
              have y6 := e6.size
              have HS5 := Lib.hid (And.intro RS RS.lt)
              clear RS
              refine hK.out _ _ (HNR.out.1.below E6) (fun hS => ?_)
              clear hK K
              try change wpAnyH _ _ _ _ _ _ _ (Act.put _ (some 19) _) _
              try simp only [Act.put, List.setIfInBounds_toArray, List.set_cons_zero, List.set_cons_succ]
              refine wpAnyH_ready (rs := [22]) (by kernel_rfl) (by simp) ?_
              refine AllReadyH.cons rfl (fun K hK => ?_) ?_
              · skip
                rw [if_pos (by rfl)]
                refine wp_append_copy rfl (.tmp 22) (.tmp 24) 49 rfl 71 iA _ 4 32 Tryz.underlying49 hiA hzA hsA hyA (by first | kernel_rfl | simp [Value.cells]) (by decide) gE rfl gE O no oc (oweL es D) rfl (by unfold maxLen; omega) (by omega) (HKE.out u6 ((bthen (Below.refl u5.heap.size u5) e6))) (Nat.le_refl _) (HG0.out _ E6).o ?_
                intro g6 c6 u7 R6 e7 l6 o6
                have E7 : Below v0.heap.size v0 u7 := bthen E6 e7
                have y7 := e7.size
                have HO6 := Lib.hid R6
                clear R6
                refine hK.out _ _ (HNR.out.1.below E7) (fun hS => ?_)
                clear hK K
                try change wpAnyH _ _ _ _ _ _ _ (Act.put _ (some 25) _) _
                try simp only [Act.put, List.setIfInBounds_toArray, List.set_cons_zero, List.set_cons_succ]
                refine wpAnyH_take (i := 23) (oi := _) (v := ?_) rfl (by kernel_rfl) (by kernel_rfl) (by kernel_rfl) (fun _ _ _ h => h) (Or.inl ⟨by rfl, ?_⟩) hS ?_
                rotate_left 1
                · intro w hSw; clear hSw; (go_simp <;> with_reducible rfl)
                change wpAnyH _ _ _ _ _ _ _ (Act.put _ (some 26) _) _
                simp only [Act.put, List.setIfInBounds_toArray, List.set_cons_zero, List.set_cons_succ]
                refine wpAnyH_ready (rs := [24]) (by kernel_rfl) (by simp) ?_
                refine AllReadyH.cons rfl (fun K hK => ?_) ?_
                · skip
                  rw [if_pos (by rfl)]
                  have HRf := HNR.out.2.below E7
                  refine wp_store_row 51 (.tmp 2) (.tmp 26) rfl gR #[.slice KA' 22 cA', .slice WA' m dA', .slice KB' 22 cB', .slice WB' m dB', .int .i64 0, .int .i64 0, .int .i64 0, .slice H' 0 hc', .int .i64 0, .int .i64 0, .int .i64 0, .slice X' 0 xc', .bool false, .int .i64 0, .int .i64 0, .slice L' n lc', .slice S' ns sc', .int .i64 (D : Nat), .slice (some ⟨g6, 0, none⟩) no c6] rfl rfl 51 #[.slice none 0 0, .slice none 0 0, .slice none 0 0, .slice none 0 0, .int .i64 0, .int .i64 0, .int .i64 0, .slice none 0 0, .int .i64 0, .int .i64 0, .int .i64 0, .slice none 0 0, .bool false, .int .i64 0, .int .i64 0, .slice none 0 0, .slice none 0 0, .int .i64 0, .slice none 0 0] HRf (by kernel_rfl) rfl (by simp [Value.oneCell']) ?_
                  refine hK.out _ _ (hS.rowFar (show gN ≠ gR by omega) _) (fun hS => ?_)
                  clear hK K
                  try change wpAnyH _ _ _ _ _ _ _ (Act.put _ none _) _
                  try simp only [Act.put, List.setIfInBounds_toArray, List.set_cons_zero, List.set_cons_succ]
                  refine wpAnyH_done (by kernel_rfl) ?_ _
                  go_wp21
                  refine bodyPost_ret (v := .agg #[.slice KA' 22 cA', .slice WA' m dA', .slice KB' 22 cB', .slice WB' m dB', .int .i64 0, .int .i64 0, .int .i64 0, .slice H' 0 hc', .int .i64 0, .int .i64 0, .int .i64 0, .slice X' 0 xc', .bool false, .int .i64 0, .int .i64 0, .slice L' n lc', .slice S' ns sc', .int .i64 (D : Nat), .slice (some ⟨g6, 0, none⟩) no c6]) (results_cell_row rfl _ _ gR 51 #[.slice KA' 22 cA', .slice WA' m dA', .slice KB' 22 cB', .slice WB' m dB', .int .i64 0, .int .i64 0, .int .i64 0, .slice H' 0 hc', .int .i64 0, .int .i64 0, .int .i64 0, .slice X' 0 xc', .bool false, .int .i64 0, .int .i64 0, .slice L' n lc', .slice S' ns sc', .int .i64 (D : Nat), .slice (some ⟨g6, 0, none⟩) no c6] (0, 0) _ rfl (HRf.setRow _) Tryz.underlying51 rfl (by kernel_rfl)) rfl ?_
                  have hge := HGE.out
                  have RLf := HL4.out.1.below (bthen ((bthen ((bthen (Below.refl u4.heap.size u4) e5)) e6)) e7)
                  have RSf := HS5.out.1.below (bthen (Below.refl u6.heap.size u6) e7)
                  exact copyLog_end (x0 := u0.heap.size) (x1 := u1.heap.size) (HT1.out.below (bthen ((bthen ((bthen ((bthen ((bthen ((bthen (Below.refl u1.heap.size u1) e2)) e3)) e4)) e5)) e6)) e7)) RLf RSf HO6.out ⟨by omega, by omega, by omega, by omega, by omega, by omega, by omega, by omega, by omega, by omega⟩
                    (fun a b ha hb => by have h1 := HL4.out.2 a ha; have h2 := HS5.out.1.ge b hb; omega)
                    (fun a b ha hb => by have h1 := HL4.out.2 a ha; have h3 := HL4.out.1.ge a ha; cases hb; rcases o6 with h2 | h2 <;> (show a.block ≠ g6; omega))
                    (fun a b ha hb => by have h1 := HS5.out.2 a ha; have h3 := HS5.out.1.ge a ha; cases hb; rcases o6 with h2 | h2 <;> (show a.block ≠ g6; omega))
                    HMM.out HNN.out HSS.out HOO.out HPL.out (bthen f0 E7)
                exact AllReadyH.nil
              exact AllReadyH.nil
            exact AllReadyH.nil
          exact AllReadyH.nil
        refine AllReadyH.cons rfl (fun K hK => ?_) ?_
        · skip
          go_simp
          obtain ⟨u4, hu⟩ : ∃ x : World, x = u3.alloc (.cells #[] 71) := ⟨_, rfl⟩
          rw [← hu]
          have e4 : Below u3.heap.size u3 u4 := by rw [hu]; exact (Below.refl _ _).alloc (Nat.le_refl _) _
          have KE : Blk u4 u3.heap.size 71 #[] := by rw [hu]; exact Blk.new u3 _ _
          clear hu
          obtain ⟨gE, hgE⟩ : ∃ q, q = u3.heap.size := ⟨_, rfl⟩
          rw [← hgE] at KE ⊢
          have HGE := Lib.hid hgE
          have lE := KE.lt
          clear hgE
          have HKE := Lib.hid (fun (X : World) (hb : Below u4.heap.size u4 X) => KE.below hb)
          clear KE
          have E4 : Below v0.heap.size v0 u4 := bthen E3 e4
          have y4 := e4.size
          refine hK.out _ _ (HNR.out.1.below E4) (fun hS => ?_)
          clear hK K
          try change wpAnyH _ _ _ _ _ _ _ (Act.put _ (some 22) _) _
          try simp only [Act.put, List.setIfInBounds_toArray, List.set_cons_zero, List.set_cons_succ]
          refine wpAnyH_ready (rs := [13]) (by kernel_rfl) (by simp) ?_
          refine AllReadyH.cons rfl (fun K hK => ?_) ?_
          · skip
            go_simp
            go_at_call 65
            refine (copyBook_zero L n lc (EN es) _ (HG0.out _ E4).l (by omega)).mono ?_
            rintro e u5 ⟨L', lc', rfl, RL, e5⟩
            have E5 : Below v0.heap.size v0 u5 := bthen E4 e5
            have y5 := e5.size
            have HL4 := Lib.hid (And.intro RL RL.lt)
            clear RL
            refine hK.out _ _ (HNR.out.1.below E5) (fun hS => ?_)
            clear hK K
            try change wpAnyH _ _ _ _ _ _ _ (Act.put _ (some 16) _) _
            try simp only [Act.put, List.setIfInBounds_toArray, List.set_cons_zero, List.set_cons_succ]
            refine wpAnyH_ready (rs := [16]) (by kernel_rfl) (by simp) ?_
            refine AllReadyH.cons rfl (fun K hK => ?_) ?_
            · skip
              go_simp
              go_at_call 66
              refine (copySeen_any S ns sc (markL es) _ (HG0.out _ E5).s (by omega)).mono ?_
              rintro e u6 ⟨S', sc', rfl, RS, e6⟩
              have E6 : Below v0.heap.size v0 u6 := bthen E5 e6
              have y6 := e6.size
              have HS5 := Lib.hid (And.intro RS RS.lt)
              clear RS
              refine hK.out _ _ (HNR.out.1.below E6) (fun hS => ?_)
              clear hK K
              try change wpAnyH _ _ _ _ _ _ _ (Act.put _ (some 19) _) _
              try simp only [Act.put, List.setIfInBounds_toArray, List.set_cons_zero, List.set_cons_succ]
              refine wpAnyH_ready (rs := [22]) (by kernel_rfl) (by simp) ?_
              refine AllReadyH.cons rfl (fun K hK => ?_) ?_
              · skip
                rw [if_pos (by rfl)]
                refine wp_append_copy rfl (.tmp 22) (.tmp 24) 49 rfl 71 iA _ 4 32 Tryz.underlying49 hiA hzA hsA hyA (by first | kernel_rfl | simp [Value.cells]) (by decide) gE rfl gE O no oc (oweL es D) rfl (by unfold maxLen; omega) (by omega) (HKE.out u6 ((bthen ((bthen (Below.refl u4.heap.size u4) e5)) e6))) (Nat.le_refl _) (HG0.out _ E6).o ?_
                intro g6 c6 u7 R6 e7 l6 o6
                have E7 : Below v0.heap.size v0 u7 := bthen E6 e7
                have y7 := e7.size
                have HO6 := Lib.hid R6
                clear R6
                refine hK.out _ _ (HNR.out.1.below E7) (fun hS => ?_)
                clear hK K
                try change wpAnyH _ _ _ _ _ _ _ (Act.put _ (some 25) _) _
                try simp only [Act.put, List.setIfInBounds_toArray, List.set_cons_zero, List.set_cons_succ]
                refine wpAnyH_take (i := 23) (oi := _) (v := ?_) rfl (by kernel_rfl) (by kernel_rfl) (by kernel_rfl) (fun _ _ _ h => h) (Or.inl ⟨by rfl, ?_⟩) hS ?_
                rotate_left 1
                · intro w hSw; clear hSw; (go_simp <;> with_reducible rfl)
                change wpAnyH _ _ _ _ _ _ _ (Act.put _ (some 26) _) _
                simp only [Act.put, List.setIfInBounds_toArray, List.set_cons_zero, List.set_cons_succ]
                refine wpAnyH_ready (rs := [24]) (by kernel_rfl) (by simp) ?_
                refine AllReadyH.cons rfl (fun K hK => ?_) ?_
                · skip
                  rw [if_pos (by rfl)]
                  have HRf := HNR.out.2.below E7
                  refine wp_store_row 51 (.tmp 2) (.tmp 26) rfl gR #[.slice KA' 22 cA', .slice WA' m dA', .slice KB' 22 cB', .slice WB' m dB', .int .i64 0, .int .i64 0, .int .i64 0, .slice H' 0 hc', .int .i64 0, .int .i64 0, .int .i64 0, .slice X' 0 xc', .bool false, .int .i64 0, .int .i64 0, .slice L' n lc', .slice S' ns sc', .int .i64 (D : Nat), .slice (some ⟨g6, 0, none⟩) no c6] rfl rfl 51 #[.slice none 0 0, .slice none 0 0, .slice none 0 0, .slice none 0 0, .int .i64 0, .int .i64 0, .int .i64 0, .slice none 0 0, .int .i64 0, .int .i64 0, .int .i64 0, .slice none 0 0, .bool false, .int .i64 0, .int .i64 0, .slice none 0 0, .slice none 0 0, .int .i64 0, .slice none 0 0] HRf (by kernel_rfl) rfl (by simp [Value.oneCell']) ?_
                  refine hK.out _ _ (hS.rowFar (show gN ≠ gR by omega) _) (fun hS => ?_)
                  clear hK K
                  try change wpAnyH _ _ _ _ _ _ _ (Act.put _ none _) _
                  try simp only [Act.put, List.setIfInBounds_toArray, List.set_cons_zero, List.set_cons_succ]
                  refine wpAnyH_done (by kernel_rfl) ?_ _
                  go_wp21
                  refine bodyPost_ret (v := .agg #[.slice KA' 22 cA', .slice WA' m dA', .slice KB' 22 cB', .slice WB' m dB', .int .i64 0, .int .i64 0, .int .i64 0, .slice H' 0 hc', .int .i64 0, .int .i64 0, .int .i64 0, .slice X' 0 xc', .bool false, .int .i64 0, .int .i64 0, .slice L' n lc', .slice S' ns sc', .int .i64 (D : Nat), .slice (some ⟨g6, 0, none⟩) no c6]) (results_cell_row rfl _ _ gR 51 #[.slice KA' 22 cA', .slice WA' m dA', .slice KB' 22 cB', .slice WB' m dB', .int .i64 0, .int .i64 0, .int .i64 0, .slice H' 0 hc', .int .i64 0, .int .i64 0, .int .i64 0, .slice X' 0 xc', .bool false, .int .i64 0, .int .i64 0, .slice L' n lc', .slice S' ns sc', .int .i64 (D : Nat), .slice (some ⟨g6, 0, none⟩) no c6] (0, 0) _ rfl (HRf.setRow _) Tryz.underlying51 rfl (by kernel_rfl)) rfl ?_
                  have hge := HGE.out
                  have RLf := HL4.out.1.below (bthen ((bthen (Below.refl u5.heap.size u5) e6)) e7)
                  have RSf := HS5.out.1.below (bthen (Below.refl u6.heap.size u6) e7)
                  exact copyLog_end (x0 := u0.heap.size) (x1 := u1.heap.size) (HT1.out.below (bthen ((bthen ((bthen ((bthen ((bthen ((bthen (Below.refl u1.heap.size u1) e2)) e3)) e4)) e5)) e6)) e7)) RLf RSf HO6.out ⟨by omega, by omega, by omega, by omega, by omega, by omega, by omega, by omega, by omega, by omega⟩
                    (fun a b ha hb => by have h1 := HL4.out.2 a ha; have h2 := HS5.out.1.ge b hb; omega)
                    (fun a b ha hb => by have h1 := HL4.out.2 a ha; have h3 := HL4.out.1.ge a ha; cases hb; rcases o6 with h2 | h2 <;> (show a.block ≠ g6; omega))
                    (fun a b ha hb => by have h1 := HS5.out.2 a ha; have h3 := HS5.out.1.ge a ha; cases hb; rcases o6 with h2 | h2 <;> (show a.block ≠ g6; omega))
                    HMM.out HNN.out HSS.out HOO.out HPL.out (bthen f0 E7)
                exact AllReadyH.nil
              exact AllReadyH.nil
            exact AllReadyH.nil
          exact AllReadyH.nil
        exact AllReadyH.nil
      refine AllReadyH.cons rfl (fun K hK => ?_) ?_
      · skip
        go_simp
        obtain ⟨u3, hu⟩ : ∃ x : World, x = u2.alloc (.cells #[] 71) := ⟨_, rfl⟩
        rw [← hu]
        have e3 : Below u2.heap.size u2 u3 := by rw [hu]; exact (Below.refl _ _).alloc (Nat.le_refl _) _
        have KE : Blk u3 u2.heap.size 71 #[] := by rw [hu]; exact Blk.new u2 _ _
        clear hu
        obtain ⟨gE, hgE⟩ : ∃ q, q = u2.heap.size := ⟨_, rfl⟩
        rw [← hgE] at KE ⊢
        have HGE := Lib.hid hgE
        have lE := KE.lt
        clear hgE
        have HKE := Lib.hid (fun (X : World) (hb : Below u3.heap.size u3 X) => KE.below hb)
        clear KE
        have E3 : Below v0.heap.size v0 u3 := bthen E2 e3
        have y3 := e3.size
        refine hK.out _ _ (HNR.out.1.below E3) (fun hS => ?_)
        clear hK K
        try change wpAnyH _ _ _ _ _ _ _ (Act.put _ (some 22) _) _
        try simp only [Act.put, List.setIfInBounds_toArray, List.set_cons_zero, List.set_cons_succ]
        refine wpAnyH_ready (rs := [8]) (by kernel_rfl) (by simp) ?_
        refine AllReadyH.cons rfl (fun K hK => ?_) ?_
        · skip
          go_simp
          go_at_call 64
          refine (copyHead_zero X xc _).mono ?_
          rintro e u4 ⟨X', xc', rfl, e4⟩
          have E4 : Below v0.heap.size v0 u4 := bthen E3 e4
          have y4 := e4.size
          refine hK.out _ _ (HNR.out.1.below E4) (fun hS => ?_)
          clear hK K
          try change wpAnyH _ _ _ _ _ _ _ (Act.put _ (some 11) _) _
          try simp only [Act.put, List.setIfInBounds_toArray, List.set_cons_zero, List.set_cons_succ]
          refine wpAnyH_ready (rs := [13]) (by kernel_rfl) (by simp) ?_
          refine AllReadyH.cons rfl (fun K hK => ?_) ?_
          · skip
            go_simp
            go_at_call 65
            refine (copyBook_zero L n lc (EN es) _ (HG0.out _ E4).l (by omega)).mono ?_
            rintro e u5 ⟨L', lc', rfl, RL, e5⟩
            have E5 : Below v0.heap.size v0 u5 := bthen E4 e5
            have y5 := e5.size
            have HL4 := Lib.hid (And.intro RL RL.lt)
            clear RL
            refine hK.out _ _ (HNR.out.1.below E5) (fun hS => ?_)
            clear hK K
            try change wpAnyH _ _ _ _ _ _ _ (Act.put _ (some 16) _) _
            try simp only [Act.put, List.setIfInBounds_toArray, List.set_cons_zero, List.set_cons_succ]
            refine wpAnyH_ready (rs := [16]) (by kernel_rfl) (by simp) ?_
            refine AllReadyH.cons rfl (fun K hK => ?_) ?_
            · skip
              go_simp
              go_at_call 66
              refine (copySeen_any S ns sc (markL es) _ (HG0.out _ E5).s (by omega)).mono ?_
              rintro e u6 ⟨S', sc', rfl, RS, e6⟩
              have E6 : Below v0.heap.size v0 u6 := bthen E5 e6
              have y6 := e6.size
              have HS5 := Lib.hid (And.intro RS RS.lt)
              clear RS
              refine hK.out _ _ (HNR.out.1.below E6) (fun hS => ?_)
              clear hK K
              try change wpAnyH _ _ _ _ _ _ _ (Act.put _ (some 19) _) _
              try simp only [Act.put, List.setIfInBounds_toArray, List.set_cons_zero, List.set_cons_succ]
              refine wpAnyH_ready (rs := [22]) (by kernel_rfl) (by simp) ?_
              refine AllReadyH.cons rfl (fun K hK => ?_) ?_
              · skip
                rw [if_pos (by rfl)]
                refine wp_append_copy rfl (.tmp 22) (.tmp 24) 49 rfl 71 iA _ 4 32 Tryz.underlying49 hiA hzA hsA hyA (by first | kernel_rfl | simp [Value.cells]) (by decide) gE rfl gE O no oc (oweL es D) rfl (by unfold maxLen; omega) (by omega) (HKE.out u6 ((bthen ((bthen ((bthen (Below.refl u3.heap.size u3) e4)) e5)) e6))) (Nat.le_refl _) (HG0.out _ E6).o ?_
                intro g6 c6 u7 R6 e7 l6 o6
                have E7 : Below v0.heap.size v0 u7 := bthen E6 e7
                have y7 := e7.size
                have HO6 := Lib.hid R6
                clear R6
                refine hK.out _ _ (HNR.out.1.below E7) (fun hS => ?_)
                clear hK K
                try change wpAnyH _ _ _ _ _ _ _ (Act.put _ (some 25) _) _
                try simp only [Act.put, List.setIfInBounds_toArray, List.set_cons_zero, List.set_cons_succ]
                refine wpAnyH_take (i := 23) (oi := _) (v := ?_) rfl (by kernel_rfl) (by kernel_rfl) (by kernel_rfl) (fun _ _ _ h => h) (Or.inl ⟨by rfl, ?_⟩) hS ?_
                rotate_left 1
                · intro w hSw; clear hSw; (go_simp <;> with_reducible rfl)
                change wpAnyH _ _ _ _ _ _ _ (Act.put _ (some 26) _) _
                simp only [Act.put, List.setIfInBounds_toArray, List.set_cons_zero, List.set_cons_succ]
                refine wpAnyH_ready (rs := [24]) (by kernel_rfl) (by simp) ?_
                refine AllReadyH.cons rfl (fun K hK => ?_) ?_
                · skip
                  rw [if_pos (by rfl)]
                  have HRf := HNR.out.2.below E7
                  refine wp_store_row 51 (.tmp 2) (.tmp 26) rfl gR #[.slice KA' 22 cA', .slice WA' m dA', .slice KB' 22 cB', .slice WB' m dB', .int .i64 0, .int .i64 0, .int .i64 0, .slice H' 0 hc', .int .i64 0, .int .i64 0, .int .i64 0, .slice X' 0 xc', .bool false, .int .i64 0, .int .i64 0, .slice L' n lc', .slice S' ns sc', .int .i64 (D : Nat), .slice (some ⟨g6, 0, none⟩) no c6] rfl rfl 51 #[.slice none 0 0, .slice none 0 0, .slice none 0 0, .slice none 0 0, .int .i64 0, .int .i64 0, .int .i64 0, .slice none 0 0, .int .i64 0, .int .i64 0, .int .i64 0, .slice none 0 0, .bool false, .int .i64 0, .int .i64 0, .slice none 0 0, .slice none 0 0, .int .i64 0, .slice none 0 0] HRf (by kernel_rfl) rfl (by simp [Value.oneCell']) ?_
                  refine hK.out _ _ (hS.rowFar (show gN ≠ gR by omega) _) (fun hS => ?_)
                  clear hK K
                  try change wpAnyH _ _ _ _ _ _ _ (Act.put _ none _) _
                  try simp only [Act.put, List.setIfInBounds_toArray, List.set_cons_zero, List.set_cons_succ]
                  refine wpAnyH_done (by kernel_rfl) ?_ _
                  go_wp21
                  refine bodyPost_ret (v := .agg #[.slice KA' 22 cA', .slice WA' m dA', .slice KB' 22 cB', .slice WB' m dB', .int .i64 0, .int .i64 0, .int .i64 0, .slice H' 0 hc', .int .i64 0, .int .i64 0, .int .i64 0, .slice X' 0 xc', .bool false, .int .i64 0, .int .i64 0, .slice L' n lc', .slice S' ns sc', .int .i64 (D : Nat), .slice (some ⟨g6, 0, none⟩) no c6]) (results_cell_row rfl _ _ gR 51 #[.slice KA' 22 cA', .slice WA' m dA', .slice KB' 22 cB', .slice WB' m dB', .int .i64 0, .int .i64 0, .int .i64 0, .slice H' 0 hc', .int .i64 0, .int .i64 0, .int .i64 0, .slice X' 0 xc', .bool false, .int .i64 0, .int .i64 0, .slice L' n lc', .slice S' ns sc', .int .i64 (D : Nat), .slice (some ⟨g6, 0, none⟩) no c6] (0, 0) _ rfl (HRf.setRow _) Tryz.underlying51 rfl (by kernel_rfl)) rfl ?_
                  have hge := HGE.out
                  have RLf := HL4.out.1.below (bthen ((bthen (Below.refl u5.heap.size u5) e6)) e7)
                  have RSf := HS5.out.1.below (bthen (Below.refl u6.heap.size u6) e7)
                  exact copyLog_end (x0 := u0.heap.size) (x1 := u1.heap.size) (HT1.out.below (bthen ((bthen ((bthen ((bthen ((bthen ((bthen (Below.refl u1.heap.size u1) e2)) e3)) e4)) e5)) e6)) e7)) RLf RSf HO6.out ⟨by omega, by omega, by omega, by omega, by omega, by omega, by omega, by omega, by omega, by omega⟩
                    (fun a b ha hb => by have h1 := HL4.out.2 a ha; have h2 := HS5.out.1.ge b hb; omega)
                    (fun a b ha hb => by have h1 := HL4.out.2 a ha; have h3 := HL4.out.1.ge a ha; cases hb; rcases o6 with h2 | h2 <;> (show a.block ≠ g6; omega))
                    (fun a b ha hb => by have h1 := HS5.out.2 a ha; have h3 := HS5.out.1.ge a ha; cases hb; rcases o6 with h2 | h2 <;> (show a.block ≠ g6; omega))
                    HMM.out HNN.out HSS.out HOO.out HPL.out (bthen f0 E7)
                exact AllReadyH.nil
              exact AllReadyH.nil
            exact AllReadyH.nil
          exact AllReadyH.nil
        exact AllReadyH.nil
      exact AllReadyH.nil
    refine AllReadyH.cons rfl (fun K hK => ?_) ?_
    · skip
      go_simp
      obtain ⟨u2, hu⟩ : ∃ x : World, x = u1.alloc (.cells #[] 71) := ⟨_, rfl⟩
      rw [← hu]
      have e2 : Below u1.heap.size u1 u2 := by rw [hu]; exact (Below.refl _ _).alloc (Nat.le_refl _) _
      have KE : Blk u2 u1.heap.size 71 #[] := by rw [hu]; exact Blk.new u1 _ _
      clear hu
      obtain ⟨gE, hgE⟩ : ∃ q, q = u1.heap.size := ⟨_, rfl⟩
      rw [← hgE] at KE ⊢
      have HGE := Lib.hid hgE
      have lE := KE.lt
      clear hgE
      have HKE := Lib.hid (fun (X : World) (hb : Below u2.heap.size u2 X) => KE.below hb)
      clear KE
      have E2 : Below v0.heap.size v0 u2 := bthen E1 e2
      have y2 := e2.size
      refine hK.out _ _ (HNR.out.1.below E2) (fun hS => ?_)
      clear hK K
      try change wpAnyH _ _ _ _ _ _ _ (Act.put _ (some 22) _) _
      try simp only [Act.put, List.setIfInBounds_toArray, List.set_cons_zero, List.set_cons_succ]
      refine wpAnyH_ready (rs := [5]) (by kernel_rfl) (by simp) ?_
      refine AllReadyH.cons rfl (fun K hK => ?_) ?_
      · skip
        go_simp
        go_at_call 64
        refine (copyHead_zero H hc _).mono ?_
        rintro e u3 ⟨H', hc', rfl, e3⟩
        have E3 : Below v0.heap.size v0 u3 := bthen E2 e3
        have y3 := e3.size
        refine hK.out _ _ (HNR.out.1.below E3) (fun hS => ?_)
        clear hK K
        try change wpAnyH _ _ _ _ _ _ _ (Act.put _ (some 8) _) _
        try simp only [Act.put, List.setIfInBounds_toArray, List.set_cons_zero, List.set_cons_succ]
        refine wpAnyH_ready (rs := [8]) (by kernel_rfl) (by simp) ?_
        refine AllReadyH.cons rfl (fun K hK => ?_) ?_
        · skip
          go_simp
          go_at_call 64
          refine (copyHead_zero X xc _).mono ?_
          rintro e u4 ⟨X', xc', rfl, e4⟩
          have E4 : Below v0.heap.size v0 u4 := bthen E3 e4
          have y4 := e4.size
          refine hK.out _ _ (HNR.out.1.below E4) (fun hS => ?_)
          clear hK K
          try change wpAnyH _ _ _ _ _ _ _ (Act.put _ (some 11) _) _
          try simp only [Act.put, List.setIfInBounds_toArray, List.set_cons_zero, List.set_cons_succ]
          refine wpAnyH_ready (rs := [13]) (by kernel_rfl) (by simp) ?_
          refine AllReadyH.cons rfl (fun K hK => ?_) ?_
          · skip
            go_simp
            go_at_call 65
            refine (copyBook_zero L n lc (EN es) _ (HG0.out _ E4).l (by omega)).mono ?_
            rintro e u5 ⟨L', lc', rfl, RL, e5⟩
            have E5 : Below v0.heap.size v0 u5 := bthen E4 e5
            have y5 := e5.size
            have HL4 := Lib.hid (And.intro RL RL.lt)
            clear RL
            refine hK.out _ _ (HNR.out.1.below E5) (fun hS => ?_)
            clear hK K
            try change wpAnyH _ _ _ _ _ _ _ (Act.put _ (some 16) _) _
            try simp only [Act.put, List.setIfInBounds_toArray, List.set_cons_zero, List.set_cons_succ]
            refine wpAnyH_ready (rs := [16]) (by kernel_rfl) (by simp) ?_
            refine AllReadyH.cons rfl (fun K hK => ?_) ?_
            · skip
              go_simp
              go_at_call 66
              refine (copySeen_any S ns sc (markL es) _ (HG0.out _ E5).s (by omega)).mono ?_
              rintro e u6 ⟨S', sc', rfl, RS, e6⟩
              have E6 : Below v0.heap.size v0 u6 := bthen E5 e6
              have y6 := e6.size
              have HS5 := Lib.hid (And.intro RS RS.lt)
              clear RS
              refine hK.out _ _ (HNR.out.1.below E6) (fun hS => ?_)
              clear hK K
              try change wpAnyH _ _ _ _ _ _ _ (Act.put _ (some 19) _) _
              try simp only [Act.put, List.setIfInBounds_toArray, List.set_cons_zero, List.set_cons_succ]
              refine wpAnyH_ready (rs := [22]) (by kernel_rfl) (by simp) ?_
              refine AllReadyH.cons rfl (fun K hK => ?_) ?_
              · skip
                rw [if_pos (by rfl)]
                refine wp_append_copy rfl (.tmp 22) (.tmp 24) 49 rfl 71 iA _ 4 32 Tryz.underlying49 hiA hzA hsA hyA (by first | kernel_rfl | simp [Value.cells]) (by decide) gE rfl gE O no oc (oweL es D) rfl (by unfold maxLen; omega) (by omega) (HKE.out u6 ((bthen ((bthen ((bthen ((bthen (Below.refl u2.heap.size u2) e3)) e4)) e5)) e6))) (Nat.le_refl _) (HG0.out _ E6).o ?_
                intro g6 c6 u7 R6 e7 l6 o6
                have E7 : Below v0.heap.size v0 u7 := bthen E6 e7
                have y7 := e7.size
                have HO6 := Lib.hid R6
                clear R6
                refine hK.out _ _ (HNR.out.1.below E7) (fun hS => ?_)
                clear hK K
                try change wpAnyH _ _ _ _ _ _ _ (Act.put _ (some 25) _) _
                try simp only [Act.put, List.setIfInBounds_toArray, List.set_cons_zero, List.set_cons_succ]
                refine wpAnyH_take (i := 23) (oi := _) (v := ?_) rfl (by kernel_rfl) (by kernel_rfl) (by kernel_rfl) (fun _ _ _ h => h) (Or.inl ⟨by rfl, ?_⟩) hS ?_
                rotate_left 1
                · intro w hSw; clear hSw; (go_simp <;> with_reducible rfl)
                change wpAnyH _ _ _ _ _ _ _ (Act.put _ (some 26) _) _
                simp only [Act.put, List.setIfInBounds_toArray, List.set_cons_zero, List.set_cons_succ]
                refine wpAnyH_ready (rs := [24]) (by kernel_rfl) (by simp) ?_
                refine AllReadyH.cons rfl (fun K hK => ?_) ?_
                · skip
                  rw [if_pos (by rfl)]
                  have HRf := HNR.out.2.below E7
                  refine wp_store_row 51 (.tmp 2) (.tmp 26) rfl gR #[.slice KA' 22 cA', .slice WA' m dA', .slice KB' 22 cB', .slice WB' m dB', .int .i64 0, .int .i64 0, .int .i64 0, .slice H' 0 hc', .int .i64 0, .int .i64 0, .int .i64 0, .slice X' 0 xc', .bool false, .int .i64 0, .int .i64 0, .slice L' n lc', .slice S' ns sc', .int .i64 (D : Nat), .slice (some ⟨g6, 0, none⟩) no c6] rfl rfl 51 #[.slice none 0 0, .slice none 0 0, .slice none 0 0, .slice none 0 0, .int .i64 0, .int .i64 0, .int .i64 0, .slice none 0 0, .int .i64 0, .int .i64 0, .int .i64 0, .slice none 0 0, .bool false, .int .i64 0, .int .i64 0, .slice none 0 0, .slice none 0 0, .int .i64 0, .slice none 0 0] HRf (by kernel_rfl) rfl (by simp [Value.oneCell']) ?_
                  refine hK.out _ _ (hS.rowFar (show gN ≠ gR by omega) _) (fun hS => ?_)
                  clear hK K
                  try change wpAnyH _ _ _ _ _ _ _ (Act.put _ none _) _
                  try simp only [Act.put, List.setIfInBounds_toArray, List.set_cons_zero, List.set_cons_succ]
                  refine wpAnyH_done (by kernel_rfl) ?_ _
                  go_wp21
                  refine bodyPost_ret (v := .agg #[.slice KA' 22 cA', .slice WA' m dA', .slice KB' 22 cB', .slice WB' m dB', .int .i64 0, .int .i64 0, .int .i64 0, .slice H' 0 hc', .int .i64 0, .int .i64 0, .int .i64 0, .slice X' 0 xc', .bool false, .int .i64 0, .int .i64 0, .slice L' n lc', .slice S' ns sc', .int .i64 (D : Nat), .slice (some ⟨g6, 0, none⟩) no c6]) (results_cell_row rfl _ _ gR 51 #[.slice KA' 22 cA', .slice WA' m dA', .slice KB' 22 cB', .slice WB' m dB', .int .i64 0, .int .i64 0, .int .i64 0, .slice H' 0 hc', .int .i64 0, .int .i64 0, .int .i64 0, .slice X' 0 xc', .bool false, .int .i64 0, .int .i64 0, .slice L' n lc', .slice S' ns sc', .int .i64 (D : Nat), .slice (some ⟨g6, 0, none⟩) no c6] (0, 0) _ rfl (HRf.setRow _) Tryz.underlying51 rfl (by kernel_rfl)) rfl ?_
                  have hge := HGE.out
                  have RLf := HL4.out.1.below (bthen ((bthen (Below.refl u5.heap.size u5) e6)) e7)
                  have RSf := HS5.out.1.below (bthen (Below.refl u6.heap.size u6) e7)
                  exact copyLog_end (x0 := u0.heap.size) (x1 := u1.heap.size) (HT1.out.below (bthen ((bthen ((bthen ((bthen ((bthen ((bthen (Below.refl u1.heap.size u1) e2)) e3)) e4)) e5)) e6)) e7)) RLf RSf HO6.out ⟨by omega, by omega, by omega, by omega, by omega, by omega, by omega, by omega, by omega, by omega⟩
                    (fun a b ha hb => by have h1 := HL4.out.2 a ha; have h2 := HS5.out.1.ge b hb; omega)
                    (fun a b ha hb => by have h1 := HL4.out.2 a ha; have h3 := HL4.out.1.ge a ha; cases hb; rcases o6 with h2 | h2 <;> (show a.block ≠ g6; omega))
                    (fun a b ha hb => by have h1 := HS5.out.2 a ha; have h3 := HS5.out.1.ge a ha; cases hb; rcases o6 with h2 | h2 <;> (show a.block ≠ g6; omega))
                    HMM.out HNN.out HSS.out HOO.out HPL.out (bthen f0 E7)
                exact AllReadyH.nil
              exact AllReadyH.nil
            exact AllReadyH.nil
          exact AllReadyH.nil
        exact AllReadyH.nil
      exact AllReadyH.nil
    exact AllReadyH.nil
  refine AllReadyH.cons rfl (fun K hK => ?_) ?_
  · skip
    go_simp
    obtain ⟨u1, hu⟩ : ∃ x : World, x = u0.alloc (.cells #[] 71) := ⟨_, rfl⟩
    rw [← hu]
    have e1 : Below u0.heap.size u0 u1 := by rw [hu]; exact (Below.refl _ _).alloc (Nat.le_refl _) _
    have KE : Blk u1 u0.heap.size 71 #[] := by rw [hu]; exact Blk.new u0 _ _
    clear hu
    obtain ⟨gE, hgE⟩ : ∃ q, q = u0.heap.size := ⟨_, rfl⟩
    rw [← hgE] at KE ⊢
    have HGE := Lib.hid hgE
    have lE := KE.lt
    clear hgE
    have HKE := Lib.hid (fun (X : World) (hb : Below u1.heap.size u1 X) => KE.below hb)
    clear KE
    have E1 : Below v0.heap.size v0 u1 := bthen E0 e1
    have y1 := e1.size
    refine hK.out _ _ (HNR.out.1.below E1) (fun hS => ?_)
    clear hK K
    try change wpAnyH _ _ _ _ _ _ _ (Act.put _ (some 22) _) _
    try simp only [Act.put, List.setIfInBounds_toArray, List.set_cons_zero, List.set_cons_succ]
    refine wpAnyH_ready (rs := [2]) (by kernel_rfl) (by simp) ?_
    refine AllReadyH.cons rfl (fun K hK => ?_) ?_
    · skip
      go_simp
      go_at_call 63
      refine (copyTwo_any KA WA KB WB cA dA cB dB m m (diskL z (es.take D)) (diskL z (es.take D)) (waitD es D) (waitD es D) _ (HG0.out _ E1).a (HG0.out _ E1).b hm1 hm1).mono ?_
      rintro e u2 ⟨KA', cA', WA', dA', KB', cB', WB', dB', rfl, hO1, e2⟩
      have E2 : Below v0.heap.size v0 u2 := bthen E1 e2
      have y2 := e2.size
      have HT1 := Lib.hid hO1
      clear hO1
      refine hK.out _ _ (HNR.out.1.below E2) (fun hS => ?_)
      clear hK K
      try change wpAnyH _ _ _ _ _ _ _ (Act.put _ (some 5) _) _
      try simp only [Act.put, List.setIfInBounds_toArray, List.set_cons_zero, List.set_cons_succ]
      refine wpAnyH_ready (rs := [5]) (by kernel_rfl) (by simp) ?_
      refine AllReadyH.cons rfl (fun K hK => ?_) ?_
      · skip
        go_simp
        go_at_call 64
        refine (copyHead_zero H hc _).mono ?_
        rintro e u3 ⟨H', hc', rfl, e3⟩
        have E3 : Below v0.heap.size v0 u3 := bthen E2 e3
        have y3 := e3.size
        refine hK.out _ _ (HNR.out.1.below E3) (fun hS => ?_)
        clear hK K
        try change wpAnyH _ _ _ _ _ _ _ (Act.put _ (some 8) _) _
        try simp only [Act.put, List.setIfInBounds_toArray, List.set_cons_zero, List.set_cons_succ]
        refine wpAnyH_ready (rs := [8]) (by kernel_rfl) (by simp) ?_
        refine AllReadyH.cons rfl (fun K hK => ?_) ?_
        · skip
          go_simp
          go_at_call 64
          refine (copyHead_zero X xc _).mono ?_
          rintro e u4 ⟨X', xc', rfl, e4⟩
          have E4 : Below v0.heap.size v0 u4 := bthen E3 e4
          have y4 := e4.size
          refine hK.out _ _ (HNR.out.1.below E4) (fun hS => ?_)
          clear hK K
          try change wpAnyH _ _ _ _ _ _ _ (Act.put _ (some 11) _) _
          try simp only [Act.put, List.setIfInBounds_toArray, List.set_cons_zero, List.set_cons_succ]
          refine wpAnyH_ready (rs := [13]) (by kernel_rfl) (by simp) ?_
          refine AllReadyH.cons rfl (fun K hK => ?_) ?_
          · skip
            go_simp
            go_at_call 65
            refine (copyBook_zero L n lc (EN es) _ (HG0.out _ E4).l (by omega)).mono ?_
            rintro e u5 ⟨L', lc', rfl, RL, e5⟩
            have E5 : Below v0.heap.size v0 u5 := bthen E4 e5
            have y5 := e5.size
            have HL4 := Lib.hid (And.intro RL RL.lt)
            clear RL
            refine hK.out _ _ (HNR.out.1.below E5) (fun hS => ?_)
            clear hK K
            try change wpAnyH _ _ _ _ _ _ _ (Act.put _ (some 16) _) _
            try simp only [Act.put, List.setIfInBounds_toArray, List.set_cons_zero, List.set_cons_succ]
            refine wpAnyH_ready (rs := [16]) (by kernel_rfl) (by simp) ?_
            refine AllReadyH.cons rfl (fun K hK => ?_) ?_
            · skip
              go_simp
              go_at_call 66
              refine (copySeen_any S ns sc (markL es) _ (HG0.out _ E5).s (by omega)).mono ?_
              rintro e u6 ⟨S', sc', rfl, RS, e6⟩
              have E6 : Below v0.heap.size v0 u6 := bthen E5 e6
              have y6 := e6.size
              have HS5 := Lib.hid (And.intro RS RS.lt)
              clear RS
              refine hK.out _ _ (HNR.out.1.below E6) (fun hS => ?_)
              clear hK K
              try change wpAnyH _ _ _ _ _ _ _ (Act.put _ (some 19) _) _
              try simp only [Act.put, List.setIfInBounds_toArray, List.set_cons_zero, List.set_cons_succ]
              refine wpAnyH_ready (rs := [22]) (by kernel_rfl) (by simp) ?_
              refine AllReadyH.cons rfl (fun K hK => ?_) ?_
              · skip
                rw [if_pos (by rfl)]
                refine wp_append_copy rfl (.tmp 22) (.tmp 24) 49 rfl 71 iA _ 4 32 Tryz.underlying49 hiA hzA hsA hyA (by first | kernel_rfl | simp [Value.cells]) (by decide) gE rfl gE O no oc (oweL es D) rfl (by unfold maxLen; omega) (by omega) (HKE.out u6 ((bthen ((bthen ((bthen ((bthen ((bthen (Below.refl u1.heap.size u1) e2)) e3)) e4)) e5)) e6))) (Nat.le_refl _) (HG0.out _ E6).o ?_
                intro g6 c6 u7 R6 e7 l6 o6
                have E7 : Below v0.heap.size v0 u7 := bthen E6 e7
                have y7 := e7.size
                have HO6 := Lib.hid R6
                clear R6
                refine hK.out _ _ (HNR.out.1.below E7) (fun hS => ?_)
                clear hK K
                try change wpAnyH _ _ _ _ _ _ _ (Act.put _ (some 25) _) _
                try simp only [Act.put, List.setIfInBounds_toArray, List.set_cons_zero, List.set_cons_succ]
                refine wpAnyH_take (i := 23) (oi := _) (v := ?_) rfl (by kernel_rfl) (by kernel_rfl) (by kernel_rfl) (fun _ _ _ h => h) (Or.inl ⟨by rfl, ?_⟩) hS ?_
                rotate_left 1
                · intro w hSw; clear hSw; (go_simp <;> with_reducible rfl)
                change wpAnyH _ _ _ _ _ _ _ (Act.put _ (some 26) _) _
                simp only [Act.put, List.setIfInBounds_toArray, List.set_cons_zero, List.set_cons_succ]
                refine wpAnyH_ready (rs := [24]) (by kernel_rfl) (by simp) ?_
                refine AllReadyH.cons rfl (fun K hK => ?_) ?_
                · skip
                  rw [if_pos (by rfl)]
                  have HRf := HNR.out.2.below E7
                  refine wp_store_row 51 (.tmp 2) (.tmp 26) rfl gR #[.slice KA' 22 cA', .slice WA' m dA', .slice KB' 22 cB', .slice WB' m dB', .int .i64 0, .int .i64 0, .int .i64 0, .slice H' 0 hc', .int .i64 0, .int .i64 0, .int .i64 0, .slice X' 0 xc', .bool false, .int .i64 0, .int .i64 0, .slice L' n lc', .slice S' ns sc', .int .i64 (D : Nat), .slice (some ⟨g6, 0, none⟩) no c6] rfl rfl 51 #[.slice none 0 0, .slice none 0 0, .slice none 0 0, .slice none 0 0, .int .i64 0, .int .i64 0, .int .i64 0, .slice none 0 0, .int .i64 0, .int .i64 0, .int .i64 0, .slice none 0 0, .bool false, .int .i64 0, .int .i64 0, .slice none 0 0, .slice none 0 0, .int .i64 0, .slice none 0 0] HRf (by kernel_rfl) rfl (by simp [Value.oneCell']) ?_
                  refine hK.out _ _ (hS.rowFar (show gN ≠ gR by omega) _) (fun hS => ?_)
                  clear hK K
                  try change wpAnyH _ _ _ _ _ _ _ (Act.put _ none _) _
                  try simp only [Act.put, List.setIfInBounds_toArray, List.set_cons_zero, List.set_cons_succ]
                  refine wpAnyH_done (by kernel_rfl) ?_ _
                  go_wp21
                  refine bodyPost_ret (v := .agg #[.slice KA' 22 cA', .slice WA' m dA', .slice KB' 22 cB', .slice WB' m dB', .int .i64 0, .int .i64 0, .int .i64 0, .slice H' 0 hc', .int .i64 0, .int .i64 0, .int .i64 0, .slice X' 0 xc', .bool false, .int .i64 0, .int .i64 0, .slice L' n lc', .slice S' ns sc', .int .i64 (D : Nat), .slice (some ⟨g6, 0, none⟩) no c6]) (results_cell_row rfl _ _ gR 51 #[.slice KA' 22 cA', .slice WA' m dA', .slice KB' 22 cB', .slice WB' m dB', .int .i64 0, .int .i64 0, .int .i64 0, .slice H' 0 hc', .int .i64 0, .int .i64 0, .int .i64 0, .slice X' 0 xc', .bool false, .int .i64 0, .int .i64 0, .slice L' n lc', .slice S' ns sc', .int .i64 (D : Nat), .slice (some ⟨g6, 0, none⟩) no c6] (0, 0) _ rfl (HRf.setRow _) Tryz.underlying51 rfl (by kernel_rfl)) rfl ?_
                  have hge := HGE.out
                  have RLf := HL4.out.1.below (bthen ((bthen (Below.refl u5.heap.size u5) e6)) e7)
                  have RSf := HS5.out.1.below (bthen (Below.refl u6.heap.size u6) e7)
                  exact copyLog_end (x0 := u1.heap.size) (x1 := u2.heap.size) (HT1.out.below (bthen ((bthen ((bthen ((bthen ((bthen (Below.refl u2.heap.size u2) e3)) e4)) e5)) e6)) e7)) RLf RSf HO6.out ⟨by omega, by omega, by omega, by omega, by omega, by omega, by omega, by omega, by omega, by omega⟩
                    (fun a b ha hb => by have h1 := HL4.out.2 a ha; have h2 := HS5.out.1.ge b hb; omega)
                    (fun a b ha hb => by have h1 := HL4.out.2 a ha; have h3 := HL4.out.1.ge a ha; cases hb; rcases o6 with h2 | h2 <;> (show a.block ≠ g6; omega))
                    (fun a b ha hb => by have h1 := HS5.out.2 a ha; have h3 := HS5.out.1.ge a ha; cases hb; rcases o6 with h2 | h2 <;> (show a.block ≠ g6; omega))
                    HMM.out HNN.out HSS.out HOO.out HPL.out (bthen f0 E7)
                exact AllReadyH.nil
              exact AllReadyH.nil
            exact AllReadyH.nil
          exact AllReadyH.nil
        exact AllReadyH.nil
      exact AllReadyH.nil
    exact AllReadyH.nil
  exact AllReadyH.nil
end Go.Proofs.YtbheflinchabgaaGreatDoor
namespace Go.Proofs.YtbheflinchabgaaGreatDoor
set_option linter.unusedSimpArgs false
set_option linter.unusedVariables false
attribute [local go_sem] n_lt2 n_lt3 n_lt4 n_le2 n_le3
open Go.RowKit
/-- What a sector may hold that a write of the slot p, over z, was under way to. -/
def TS (p : En) (z x : List Int) : Prop := x = z ∨ x = slotW p ∨ x = tornL (slotW p) z
theorem ts_uns {p : En} {z x ys : List Int} (hz : blankL z) (h : TS p z x) (hu : unsumL x = some ys) : ys = [] ∨ (x = slotW p ∧ ys = slotL p) ∨ (x = tornL (slotW p) z ∧ ys.length = 5) := by
  rcases h with rfl | rfl | rfl
  · rcases hz.uns with h | h
    · rw [h] at hu; cases hu
    · rw [h] at hu; cases hu; exact .inl rfl
  · unfold slotW at hu
    rw [unsumL_with] at hu
    cases hu
    exact .inr (.inl ⟨rfl, rfl⟩)
  · exact .inr (.inr ⟨rfl, torn_slot hz.len hu⟩)
theorem rightL_mem {a b zs : List Int} (h : zs ∈ rightL a b) : unsumL a = some zs ∨ unsumL b = some zs := by
  unfold rightL at h
  cases ha : unsumL a with
  | none =>
    cases hb : unsumL b with
    | none => rw [ha, hb] at h; cases h
    | some y => rw [ha, hb] at h; rw [List.mem_singleton.1 h]; exact .inr rfl
  | some x =>
    cases hb : unsumL b with
    | none => rw [ha, hb] at h; rw [List.mem_singleton.1 h]; exact .inl rfl
    | some y =>
      rw [ha, hb] at h
      simp only at h
      split at h
      · rw [List.mem_singleton.1 h]; exact .inl rfl
      · rcases List.mem_cons.1 h with h | h
        · rw [h]; exact .inl rfl
        · rw [List.mem_singleton.1 h]; exact .inr rfl
theorem rightL_a {a b x : List Int} (h : unsumL a = some x) : x ∈ rightL a b := by
  unfold rightL
  rw [h]
  cases unsumL b with
  | none => simp
  | some y => simp only; split <;> simp
theorem rightL_b {a b y : List Int} (h : unsumL b = some y) : y ∈ rightL a b := by
  unfold rightL
  rw [h]
  cases unsumL a with
  | none => simp
  | some x =>
    simp only
    split
    · rename_i e; subst e; simp
    · simp
theorem ts_right {p : En} {z xa xb : List Int} (hz : blankL z) (ha : TS p z xa) (hb : TS p z xb) : ∀ zs ∈ rightL xa xb, zs.length = 11 → zs = slotL p := fun zs hm hl => by
  rcases rightL_mem hm with h | h
  · rcases ts_uns hz ha h with e | e | e
    · subst e; cases hl
    · exact e.2
    · rw [e.2] at hl; cases hl
  · rcases ts_uns hz hb h with e | e | e
    · subst e; cases hl
    · exact e.2
    · rw [e.2] at hl; cases hl
theorem ts_hit {p : En} {z xa xb : List Int} (h : xa = slotW p ∨ xb = slotW p) : (rightL xa xb).any (fun r => decide (r.length = 11)) = true := by
  have hu : unsumL (slotW p) = some (slotL p) := unsumL_with _
  rw [List.any_eq_true]
  refine ⟨slotL p, ?_, by simp [slotL_len]⟩
  rcases h with rfl | rfl
  · exact rightL_a hu
  · exact rightL_b hu
theorem ts_miss {p : En} {z xa xb : List Int} (hz : blankL z) (ha : TS p z xa) (hb : TS p z xb) (h1 : xa ≠ slotW p) (h2 : xb ≠ slotW p) : (rightL xa xb).any (fun r => decide (r.length = 11)) = false := by
  rw [List.any_eq_false]
  intro zs hm hl
  have hl := of_decide_eq_true hl
  rcases rightL_mem hm with h | h
  · rcases ts_uns hz ha h with e | e | e
    · subst e; cases hl
    · exact h1 e.1
    · rw [e.2] at hl; cases hl
  · rcases ts_uns hz hb h with e | e | e
    · subst e; cases hl
    · exact h2 e.1
    · rw [e.2] at hl; cases hl
theorem ts_ab {p : En} {z xa xb x y : List Int} (hz : blankL z) (ha : TS p z xa) (hb : TS p z xb) (h1 : unsumL xa = some x) (h2 : unsumL xb = some y) : x = y ∨ x.length ≠ y.length := by
  rcases ts_uns hz ha h1 with e1 | e1 | e1 <;> rcases ts_uns hz hb h2 with e2 | e2 | e2
  · exact .inl (e1.trans e2.symm)
  · right; rw [e1, e2.2, slotL_len]; decide
  · right; rw [e1, e2.2]; decide
  · right; rw [e1.2, e2, slotL_len]; decide
  · exact .inl (e1.2.trans e2.2.symm)
  · right; rw [e1.2, e2.2, slotL_len]; decide
  · right; rw [e1.2, e2]; decide
  · right; rw [e1.2, e2.2, slotL_len]; decide
  · left
    rw [e1.1] at h1
    rw [e2.1, h1] at h2
    exact Option.some.inj h2
/-- The disk of the entries ds, where the next sector holds x. -/
def diskX (z : List Int) (ds : List En) (x : List Int) : List (List Int) := (diskL z ds).set (3 + ds.length) x
theorem diskX_same (z : List Int) (ds : List En) (h : ds.length < 19) : diskX z ds z = diskL z ds := set_same _ _ _ (diskL_rest z ds _ (Nat.le_refl _) h) (by rw [diskL_len (by omega)]; omega)
theorem diskX_get (z : List Int) (ds : List En) (x : List Int) (h : ds.length < 19) (i : Nat) (hi : i < 19) : (diskX z ds x).getD (3 + i) [] = if i < ds.length then slotW (ds.getD i default) else if i = ds.length then x else z := by
  unfold diskX
  rw [set_getD _ _ _ _ (by rw [diskL_len (by omega)]; omega)]
  by_cases h1 : i < ds.length
  · rw [if_neg (by omega), if_pos h1, diskL_slot _ _ _ h1]
  · rw [if_neg h1]
    by_cases h2 : i = ds.length
    · rw [if_pos (by omega), if_pos h2]
    · rw [if_neg (by omega), if_neg h2, diskL_rest _ _ _ (by omega) hi]
theorem diskX_0 (z : List Int) (ds : List En) (x : List Int) (h : ds.length < 19) : (diskX z ds x).getD 0 [] = withL headL ∧ (diskX z ds x).getD 1 [] = z := by
  unfold diskX
  rw [set_getD _ _ _ _ (by rw [diskL_len (by omega)]; omega), set_getD _ _ _ _ (by rw [diskL_len (by omega)]; omega), if_neg (by omega), if_neg (by omega)]
  exact ⟨rfl, rfl⟩
theorem readP_ts {p : En} {z xa xb : List Int} {ds : List En} (hz : blankL z) (hp : entsP (ds ++ [p])) (ha : TS p z xa) (hb : TS p z xb) : ∃ fs, (fs = ds ∨ fs = ds ++ [p]) ∧ ReadP (diskX z ds xa) (diskX z ds xb) fs := by
  have hl : ds.length + 1 ≤ 8 := by have := hp.1; simpa using this
  have hds : entsP ds := by have := hp.take ds.length; simpa using this
  have gA : ∀ i, i < 19 → _ := diskX_get z ds xa (by omega)
  have gB : ∀ i, i < 19 → _ := diskX_get z ds xb (by omega)
  have tz : TS p z z := .inl rfl
  have old : ∀ k, k < ds.length → ∀ zs ∈ rightL (slotW (ds.getD k default)) (slotW (ds.getD k default)), zs = slotL (ds.getD k default) := fun k _ zs hm => by
    have hu : unsumL (slotW (ds.getD k default)) = some (slotL (ds.getD k default)) := unsumL_with _
    rcases rightL_mem hm with h | h <;> · rw [hu] at h; exact (Option.some.inj h).symm
  have oldab : ∀ k, ∀ x y, unsumL (slotW (ds.getD k default)) = some x → unsumL (slotW (ds.getD k default)) = some y → x = y := fun k x y h1 h2 => by rw [h1] at h2; exact Option.some.inj h2
  by_cases h : xa = slotW p ∨ xb = slotW p
  · have e1 : ∀ i, i < ds.length → (ds ++ [p]).getD i default = ds.getD i default := fun i hi => by simp [List.getD, List.getElem?_append_left hi]
    have e2 : (ds ++ [p]).getD ds.length default = p := by simp [List.getD]
    refine ⟨ds ++ [p], .inr rfl, hp, fun k hk => ?_, ?_, fun k hk x y h1 h2 => ?_⟩
    · rw [List.length_append, List.length_singleton] at hk
      rw [gA k (by omega), gB k (by omega)]
      by_cases hlt : k < ds.length
      · rw [if_pos hlt, if_pos hlt, e1 k hlt]
        exact ⟨ts_hit (z := z) (.inl rfl), fun zs hm _ => old k hlt zs hm⟩
      · have : k = ds.length := by omega
        subst this
        rw [if_neg hlt, if_neg hlt, if_pos rfl, if_pos rfl, e2]
        exact ⟨ts_hit (z := z) h, ts_right hz ha hb⟩
    · rw [List.length_append, List.length_singleton, gA _ (by omega), gB _ (by omega), if_neg (by omega), if_neg (by omega), if_neg (by omega), if_neg (by omega)]
      rw [List.any_eq_false]
      intro zs hm hl11
      have hl11 := of_decide_eq_true hl11
      rcases hz.uns with hu | hu <;> rcases rightL_mem hm with h' | h' <;> rw [hu] at h' <;> cases h' <;> cases hl11
    · rw [List.length_append, List.length_singleton] at hk
      rw [gA k (by omega)] at h1
      rw [gB k (by omega)] at h2
      by_cases hlt : k < ds.length
      · rw [if_pos hlt] at h1 h2
        exact .inl (oldab k x y h1 h2)
      · rw [if_neg hlt] at h1 h2
        by_cases he : k = ds.length
        · rw [if_pos he] at h1 h2
          exact ts_ab hz ha hb h1 h2
        · rw [if_neg he] at h1 h2
          rw [h1] at h2
          exact .inl (Option.some.inj h2)
  · refine ⟨ds, .inl rfl, hds, fun k hk => ?_, ?_, fun k hk x y h1 h2 => ?_⟩
    · rw [gA k (by omega), gB k (by omega), if_pos hk, if_pos hk]
      exact ⟨ts_hit (z := z) (.inl rfl), fun zs hm _ => old k hk zs hm⟩
    · rw [gA _ (by omega), gB _ (by omega)]
      simp only [Nat.lt_irrefl, if_false, if_true, eq_self]
      exact ts_miss hz ha hb (fun e => h (.inl e)) (fun e => h (.inr e))
    · rw [gA k (by omega)] at h1
      rw [gB k (by omega)] at h2
      by_cases hlt : k < ds.length
      · rw [if_pos hlt] at h1 h2
        exact .inl (oldab k x y h1 h2)
      · have he : k = ds.length := by omega
        rw [if_neg hlt, if_pos he] at h1 h2
        exact ts_ab hz ha hb h1 h2
/-- Where no write waits. -/
theorem readP_all {z : List Int} {es : List En} (hz : blankL z) (hp : entsP es) : ReadP (diskL z es) (diskL z es) es := by
  have hl := hp.1
  have old : ∀ k, k < es.length → ∀ zs ∈ rightL (slotW (es.getD k default)) (slotW (es.getD k default)), zs = slotL (es.getD k default) := fun k _ zs hm => by
    have hu : unsumL (slotW (es.getD k default)) = some (slotL (es.getD k default)) := unsumL_with _
    rcases rightL_mem hm with h | h <;> · rw [hu] at h; exact (Option.some.inj h).symm
  refine ⟨hp, fun k hk => ?_, ?_, fun k hk x y h1 h2 => ?_⟩
  · rw [diskL_slot _ _ _ hk]
    exact ⟨ts_hit (z := z) (.inl rfl), fun zs hm _ => old k hk zs hm⟩
  · rw [diskL_rest _ _ _ (Nat.le_refl _) (by omega), List.any_eq_false]
    intro zs hm hl11
    have hl11 := of_decide_eq_true hl11
    rcases hz.uns with hu | hu <;> rcases rightL_mem hm with h' | h' <;> rw [hu] at h' <;> cases h' <;> cases hl11
  · rw [h1] at h2
    exact .inl (Option.some.inj h2)
theorem take_last {es : List En} {D : Nat} (h : D < es.length) (h2 : es.length ≤ D + 1) : es.take D ++ [es.getD D default] = es := by
  have := take_getD es D h
  rw [← this]
  exact List.take_of_length_le h2
/-- A crash: each disk's one write is lost, kept or torn. -/
theorem readP_fall {z : List Int} {es : List En} {D : Nat} {ra rb : List (List Int)} (hz : blankL z) (hp : entsP es) (h1 : D ≤ es.length) (h2 : es.length ≤ D + 1)
    (ha : FallW (diskL z (es.take D)) (waitD es D) ra) (hb : FallW (diskL z (es.take D)) (waitD es D) rb) :
    ∃ fs, (fs = es ∨ fs = es.take D) ∧ ReadP ra rb fs ∧ ra.getD 0 [] = withL headL ∧ rb.getD 0 [] = withL headL ∧ ra.getD 1 [] = z ∧ rb.getD 1 [] = z := by
  by_cases h : D < es.length
  · have ew : waitD es D = [(((3 + D : Nat) : Int), slotW (es.getD D default))] := by unfold waitD; rw [if_pos h]
    rw [ew] at ha hb
    have hl : (es.take D).length = D := by rw [List.length_take]; omega
    have h8 := hp.1
    have key : ∀ r, FallW (diskL z (es.take D)) [(((3 + D : Nat) : Int), slotW (es.getD D default))] r → ∃ x, TS (es.getD D default) z x ∧ r = diskX z (es.take D) x := fun r hr => by
      have hold : (diskL z (es.take D)).getD (3 + D) [] = z := diskL_rest _ _ _ (by omega) (by omega)
      have hr2 : FallR (diskL z (es.take D)) (3 + D) (slotW (es.getD D default)) r := hr
      unfold FallR at hr2
      rw [hold] at hr2
      have hd : ∀ x, (diskL z (es.take D)).set (3 + D) x = diskX z (es.take D) x := fun x => by unfold diskX; rw [hl]
      rcases hr2 with e | e | e
      · exact ⟨z, .inl rfl, by rw [e, diskX_same _ _ (by omega)]⟩
      · exact ⟨_, .inr (.inl rfl), by rw [e, hd]⟩
      · exact ⟨_, .inr (.inr rfl), by rw [e, hd]⟩
    obtain ⟨xa, ta, rfl⟩ := key ra ha
    obtain ⟨xb, tb, rfl⟩ := key rb hb
    have hpp : entsP (es.take D ++ [es.getD D default]) := by rw [take_last h h2]; exact hp
    obtain ⟨fs, hf, hR⟩ := readP_ts hz hpp ta tb
    rw [take_last h h2] at hf
    have q1 := diskX_0 z (es.take D) xa (by omega)
    have q2 := diskX_0 z (es.take D) xb (by omega)
    exact ⟨fs, hf.symm, hR, q1.1, q2.1, q1.2, q2.2⟩
  · have hD : D = es.length := by omega
    have ew : waitD es D = [] := by unfold waitD; rw [if_neg h]
    rw [ew] at ha hb
    have ha2 : ra = diskL z (es.take D) := ha
    have hb2 : rb = diskL z (es.take D) := hb
    rw [hD, List.take_length] at ha2 hb2
    subst ha2 hb2
    exact ⟨es, .inl rfl, readP_all hz hp, rfl, rfl, rfl, rfl⟩
theorem syncL_wait {z : List Int} {es : List En} {D : Nat} (hp : entsP es) (h1 : D ≤ es.length) (h2 : es.length ≤ D + 1) : syncL (diskL z (es.take D)) (waitD es D) = diskL z es := by
  by_cases h : D < es.length
  · have hl : (es.take D).length = D := by rw [List.length_take]; omega
    have h8 := hp.1
    unfold waitD
    rw [if_pos h]
    show (diskL z (es.take D)).set (3 + D) (slotW (es.getD D default)) = diskL z es
    have := diskL_grow z (es.take D) (es.getD D default) (by omega)
    rw [hl, take_last h h2] at this
    exact this
  · have hD : D = es.length := by omega
    unfold waitD
    rw [if_neg h, hD, List.take_length]
    rfl
theorem wait_fits {z : List Int} {es : List En} {D : Nat} (hz : blankL z) (hp : entsP es) (h1 : D ≤ es.length) : ∀ x ∈ waitD es D, 0 < x.2.length ∧ ((diskL z (es.take D)).getD x.1.toNat []).length ≤ x.2.length / 2 := fun x hx => by
  unfold waitD at hx
  split at hx
  · rename_i h
    have h8 := hp.1
    obtain rfl := List.mem_singleton.1 hx
    have hl : (es.take D).length = D := by rw [List.length_take]; omega
    show 0 < (slotW (es.getD D default)).length ∧ ((diskL z (es.take D)).getD (3 + D) []).length ≤ (slotW (es.getD D default)).length / 2
    rw [diskL_rest _ _ _ (by omega) (by omega)]
    have := hz.len
    unfold slotW
    rw [withL_len, slotL_len]
    omega
  · cases hx
end Go.Proofs.YtbheflinchabgaaGreatDoor
