/- The reference's OpenJobs. -/
import Derived.Test.YtgpllffiahccjaaK7
import Derived.Test.YtgpllffiahccjaaCp
import Derived.Deep.AppendLies
namespace Go.Proofs.Ytgpllffiahccjaa
set_option linter.unusedSimpArgs false
set_option linter.unusedVariables false
attribute [local go_sem] n_lt2 n_lt3 n_lt4 n_le2 n_le3
open Go.RowKit
attribute [local go_sem] Ext.cell Ext.frozen
theorem sl_take {w : World} {s n : Nat} {A : Option Addr} {zs : List Int} (h : Sl w s A n zs) (k : Nat) (hk : k ≤ n) : Sl w s A k (zs.take (k * s)) := by
  have hl := h.len
  have hm : k * s ≤ n * s := Nat.mul_le_mul_right s hk
  refine ⟨by simp; omega, fun hk0 => ?_⟩
  obtain ⟨b, off, hA, hb, hc⟩ := h.2 (by omega)
  refine ⟨b, off, hA, hb, fun j hj => ?_⟩
  rw [hc j (by omega)]
  congr 2
  simp [List.getD, List.getElem?_take, hj]
theorem sl_drop {w : World} {s n b off : Nat} {zs : List Int} (h : Sl w s (some ⟨b, off, none⟩) n zs) (k : Nat) (hk : k ≤ n) : Sl w s (some ⟨b, off + k * s, none⟩) (n - k) (zs.drop (k * s)) := by
  have hl := h.len
  refine ⟨by rw [List.length_drop, hl, Nat.sub_mul], fun hk0 => ?_⟩
  obtain ⟨b', off', hA, hb, hc⟩ := h.2 (by omega)
  injection hA with hA
  injection hA with h1 h2
  subst h1 h2
  refine ⟨b, off + k * s, rfl, hb, fun j hj => ?_⟩
  have h5 : k * s + j < n * s := by
    rw [Nat.sub_mul] at hj
    omega
  have h3 := hc (k * s + j) h5
  rw [show off + k * s + j = off + (k * s + j) by omega, h3]
  congr 2
  simp [List.getD, List.getElem?_drop]
theorem DU_take (l : List Du) (k : Nat) : DU (l.take k) = (DU l).take (k * 2) := by
  induction l generalizing k with
  | nil => simp [DU]
  | cons a l ih =>
    cases k with
    | zero => simp [DU]
    | succ k =>
      have := ih k
      unfold DU at this ⊢
      simp only [List.take_succ_cons, List.flatMap_cons, this]
      rw [show (k + 1) * 2 = k * 2 + 1 + 1 by omega]
      rfl
theorem DU_drop (l : List Du) (k : Nat) : DU (l.drop k) = (DU l).drop (k * 2) := by
  induction l generalizing k with
  | nil => simp [DU]
  | cons a l ih =>
    cases k with
    | zero => simp [DU]
    | succ k =>
      have := ih k
      unfold DU at this ⊢
      simp only [List.drop_succ_cons, List.flatMap_cons, this]
      rw [show (k + 1) * 2 = k * 2 + 1 + 1 by omega]
      rfl
theorem DU_cons (x : Du) (l : List Du) : DU (x :: l) = [x.i, x.d] ++ DU l := rfl
theorem heldb_dr {W v : World} {b : Nat} (h : ∀ o, v.cell? ⟨b, o, none⟩ = W.cell? ⟨b, o, none⟩) : ∀ o, v.drew.cell? ⟨b, o, none⟩ = W.cell? ⟨b, o, none⟩ := h
theorem heldb_al {W v : World} {b : Nat} (h : ∀ o, v.cell? ⟨b, o, none⟩ = W.cell? ⟨b, o, none⟩) (hb : b < v.heap.size) (x : Obj) : ∀ o, (v.alloc x).cell? ⟨b, o, none⟩ = W.cell? ⟨b, o, none⟩ :=
  fun o => (((Below.refl v.heap.size v).alloc (Nat.le_refl _) x).cell (p := ⟨b, o, none⟩) hb).trans (h o)
theorem heldb_wr {W v v' : World} {b g : Nat} (hw : Wrote v v' (some ⟨g, 0, none⟩)) (h : ∀ o, v.cell? ⟨b, o, none⟩ = W.cell? ⟨b, o, none⟩) (hb : b < v.heap.size) (hne : b ≠ g) : ∀ o, v'.cell? ⟨b, o, none⟩ = W.cell? ⟨b, o, none⟩ :=
  fun o => (World.cell?_of_block (World.grownBy.block hw b hb (by simpa using hne))).trans (h o)
/-- append onto a row of the call's own, as one step of a region that draws. -/
theorem step_append_rowS {P : Program} {ops : Array Oper} {o : Oper} {a : Act} {w : World} {K : Act → World → Prop} {Q : Exit → Act → World → Prop} {E : Prop}
    (hg : o.guard = none) (s x : Operand) (t : TypeId) (hop : o.op = Op.call { callee := Callee.builtin Builtin.append, args := #[s, x], argTypes := #[t, t] })
    (e : TypeId) (z : Value) (size bytes : Nat) (h1 : P.underlying t = some (.slice e)) (hinfo : (P.info? e).map (fun i => (i.zero, i.size, i.bytes)) = some (some z, size, bytes)) (h6 : z.cells.size = size) (h7 : 0 < size)
    (lo g n cap : Nat) (xs : List Int) (hs : a.eval s = .slice (some ⟨g, 0, none⟩) n cap) (hR : Row w lo e size (some ⟨g, 0, none⟩) n cap xs)
    (ad : Addr) (m c : Nat) (news : List Int) (hx : a.eval x = .slice (some ad) m c) (hl : news.length = m * size) (hnews : ∀ j u, (ints news)[j]? = some u → w.cell? (ad.add j) = some u) (hm : 0 < m)
    (b0 : n + m ≤ maxLen) (b1 : (n + m) * bytes ≤ 140737488355328) (hlo : lo ≤ w.heap.size)
    (hK : ∀ g' c' w', Row w' lo e size (some ⟨g', 0, none⟩) (n + m) c' (xs ++ news) → Wrote w w' (some ⟨g, 0, none⟩) → (g' = g ∨ g' = w.heap.size) → K (a.put o.dst (.slice (some ⟨g', 0, none⟩) (n + m) c')) w') :
    if Region.wanted o (yielded ops a.tmps) = true then Oper.wp P o a w K Q else E := by
  obtain ⟨i, hi, hiz, his, hib⟩ : ∃ i, P.info? e = some i ∧ i.zero = some z ∧ i.size = size ∧ i.bytes = bytes := by
    cases hq : P.info? e with
    | none => rw [hq] at hinfo; simp at hinfo
    | some i =>
      rw [hq] at hinfo
      simp only [Option.map_some, Option.some.injEq, Prod.mk.injEq] at hinfo
      exact ⟨i, rfl, hinfo.1, hinfo.2.1, hinfo.2.2⟩
  refine step_append_lies _ hg s x t hop lo e i z size bytes h1 hi hiz his hib h6 h7 _ n (ints xs) hs hR ad m c (ints news) hx (by rw [ints_length]; exact hl) hnews (ints_oneCell' news) hm b0 b1 hlo w.heap.size rfl ?_
  intro g' c' w' hown hgr hat _
  rw [← ints_append] at hown
  exact hK g' c' w' hown hgr (by
    rcases hat with h | h
    · left; simpa [Value.ownBlock] using h.symm
    · right; exact h)
set_option maxRecDepth 100000 in
set_option maxHeartbeats 8000000 in
theorem specOpenJobs_any (A : Option Addr) (n cap : Nat) (l : List Jb) (w : World) (hS : Sl w 5 A n (JB l)) (hl : l.length = n) (hn : n ≤ maxLen) :
    Calls Try.prog 52 #[.slice A n cap] w (RetRow w 87 2 (openR l).length (DU (openR l))) := by
  have HS := Lib.hid (fun (v : World) (hB : Below w.heap.size w v) => hS.below hB)
  have c1 := fun (v : World) (hv : Sl v 5 A n (JB l)) => specJobsOk_any A n cap l v hv hl hn
  clear hS
  cases hb : jobsB l with
  | false =>
    have hr : openR l = [] := by unfold openR; rw [hb]; rfl
    rw [hr]
    rw [hb] at c1
    have C1 := Lib.hid c1
    clear c1
    go_enter Try.func52, Try.ntmps52
    go_wp2_with fail
    refine calls_named ?_
    rintro v hv
    have bv : Below w.heap.size w v := by rw [hv]; exact (Below.refl _ _).alloc (Nat.le_refl _) _
    have R0 : Row v w.heap.size 87 2 (some ⟨w.heap.size, 0, none⟩) 0 0 [] := by rw [hv]; exact row0p (Blk.new w _ _) (Nat.le_refl _)
    clear hv
    refine (C1.out v (HS.out v bv)).mono ?_
    rintro e w1 ⟨rfl, b1⟩
    go_wp2
    go_ret
    exact RetRow.mk (R0.below b1) (bthen bv b1)
  | true =>
    have hr : openR l = openL l := by unfold openR; rw [hb]; rfl
    rw [hr]
    rw [hb] at c1
    have C1 := Lib.hid c1
    have h8 := (jobsB_all hb).1
    have hn8 : n ≤ 8 := by omega
    have HB := Lib.hid (jobsB_all hb).2
    have hL := Lib.hid hl
    clear c1 hr hb h8 hl
    go_enter Try.func52, Try.ntmps52
    go_wp2_with fail
    refine calls_named ?_
    rintro v hv
    have bv : Below w.heap.size w v := by rw [hv]; exact (Below.refl _ _).alloc (Nat.le_refl _) _
    have R0 : Row v w.heap.size 87 2 (some ⟨w.heap.size, 0, none⟩) 0 0 [] := by rw [hv]; exact row0p (Blk.new w _ _) (Nat.le_refl _)
    clear hv
    refine (C1.out v (HS.out v bv)).mono ?_
    rintro e w1 ⟨rfl, b1⟩
    have R1 := R0.below b1
    have f1 := bthen bv b1
    clear R0 bv b1
    go_wp2
    go_loopw [3, 4] (fun o iv wr => ∃ (j g0 c0 : Nat) (y : List Du), j ≤ n ∧ iv = .int .i64 (j : Nat) ∧ o = .slice (some ⟨g0, 0, none⟩) y.length c0 ∧ Row wr w.heap.size 87 2 (some ⟨g0, 0, none⟩) y.length c0 (DU y) ∧ Hid (y = openTo l j) ∧ Below w.heap.size w wr) (fun _ iv _ => n - (intOf iv).toNat)
    case atStart => exact ⟨0, _, _, [], Nat.zero_le _, rfl, rfl, R1, Lib.hid rfl, f1⟩
    case round =>
      clear R1 f1
      obtain ⟨j, g0, c0, y, hj, rfl, rfl, R, hy, hbl⟩ := hrel
      have hy8 : y.length ≤ 8 := by have := openTo_len l j; rw [← hy.out] at this; omega
      by_cases hjn : j < n
      · have hjn' : (j : Int) < (n : Int) := by omega
        obtain ⟨b0, off, rfl, hb0, hcell⟩ := sl_jobs (HS.out w (Below.refl _ _)) (by omega)
        obtain ⟨h0, h1, _, _, h4⟩ := hcell j hjn
        clear hcell
        rw [← hbl.cell (by exact hb0)] at h0 h1 h4
        have hok := jobAtB_ok (HB.out j (by rw [hL.out]; exact hjn))
        have hbr : b0 < wr.heap.size := Nat.lt_of_lt_of_le hb0 hbl.size
        have hop0 : openTo l (j + 1) = if openJ (l.getD j default) = true then insDu (openTo l j) (duOf (l.getD j default)) else openTo l j := rfl
        have HOP := Lib.hid hop0
        clear hop0
        generalize l.getD j default = pj at h0 h1 h4 hok HOP
        obtain ⟨xi, xd, xk, xv, xf⟩ := pj
        simp only at h0 h1 h4
        have hf0 : 0 ≤ xf := by unfold jobOkB jobB at hok; simp only [Bool.and_eq_true, inB_iff] at hok; omega
        clear hok
        by_cases hxf : 0 < xf
        · have hy2 := Lib.hid (show y = openTo l (j + 1) by rw [HOP.out, if_neg (by unfold openJ; simp; omega)]; exact hy.out)
          clear hf0 hy
          go_wp2
          exact ⟨⟨j + 1, g0, c0, y, by omega, by go_num, rfl, R, hy2, hbl⟩, by simp [intOf]; omega⟩
        · have hxz : xf = 0 := by omega
          have hop := Lib.hid (show openTo l (j + 1) = insDu (openTo l j) ⟨xi, xd⟩ by rw [HOP.out, if_pos (by unfold openJ; simp [hxz])]; rfl)
          have HC0 := Lib.hid (And.intro ((hbl.cell (p := ⟨b0, off + j * 5, none⟩) hb0).symm.trans h0) ((hbl.cell (p := ⟨b0, off + j * 5 + 1, none⟩) hb0).symm.trans h1))
          subst hxz
          clear hf0 hxf
          go_wp2
          clear h4 h0 h1
          go_loopw [5] (fun kv wq => ∃ k : Nat, k ≤ y.length ∧ kv = .int .i64 (k : Nat) ∧ Hid (kIns y xd = kInsF y xd k) ∧ Row wq w.heap.size 87 2 (some ⟨g0, 0, none⟩) y.length c0 (DU y) ∧ Below w.heap.size w wq) (fun kv _ => (intOf kv).toNat)
          case atStart => exact ⟨y.length, Nat.le_refl _, rfl, Lib.hid rfl, R, hbl⟩
          case round =>
            clear R hbl hbr
            obtain ⟨k, hk, rfl, hki, R, hbl⟩ := hrel
            have hbr : b0 < wr.heap.size := Nat.lt_of_lt_of_le hb0 hbl.size
            have h0 : wr.cell? ⟨b0, off + j * 5, none⟩ = some (.int .i64 xi) := (hbl.cell (p := ⟨b0, off + j * 5, none⟩) hb0).trans HC0.out.1
            have h1 : wr.cell? ⟨b0, off + j * 5 + 1, none⟩ = some (.int .i64 xd) := (hbl.cell (p := ⟨b0, off + j * 5 + 1, none⟩) hb0).trans HC0.out.2
            rcases Nat.eq_zero_or_pos k with hk0 | hk0
            · subst hk0
              have hins := Lib.hid (show kIns y xd = 0 from hki.out)
              clear hki
              go_wp2
              ((refine wp_region_ext (by kernel_rfl) (by kernel_rfl) ?_); (repeat (any_goals (first | go_big_quiet_step (fail) | (refine wpQuiet_step (fun K hK => ?_); go_simp; split <;> (refine hK _ ?_; clear hK K)) | quiet_step (fail)))); (all_goals (refine wpQuiet_nil ?_; rintro _ ⟨z, rfl⟩; have hb' := z.h; generalize z.w = w1 at hb' ⊢; clear z; (first | (have hb2 := bstep hb' hb hb.size; clear hb' hcb hfb hz1 hz2 hz3 hz4 hb; have hb := hb2; clear hb2) | (have hb := hb'; clear hb')); obtain ⟨hcb, hfb, hz1, hz2, hz3, hz4⟩ := bcell hb; (try simp only [World.size_alloc, World.size_setCell, World.size_drew, Nat.lt_add_one_iff, Nat.add_assoc, Nat.reduceAdd] at hz1 hz2 hz3 hz4))))
              all_goals
                replace R := R.below hb
                replace hbl := bthen hbl hb
                replace h0 : w1.cell? ⟨b0, off + j * 5, none⟩ = some (.int .i64 xi) := (hb.cell (p := ⟨b0, off + j * 5, none⟩) hbr).trans h0
                replace h1 : w1.cell? ⟨b0, off + j * 5 + 1, none⟩ = some (.int .i64 xd) := (hb.cell (p := ⟨b0, off + j * 5 + 1, none⟩) hbr).trans h1
                replace hbr := Nat.lt_of_lt_of_le hbr hb.size
                clear hcb hfb hz1 hz2 hz3 hz4
                have hkl := hk
                have hci := R.cap_le
                have hkc : (0 : Int) ≤ (c0 : Int) := by omega
                have hkli : (0 : Int) ≤ (y.length : Int) := by omega
                have hk0i : (0 : Int) ≤ (0 : Int) := by omega
                have hz := hbl.size
                have hg0 := R.lt _ rfl
                have HRR := Lib.hid R
                have HBL := Lib.hid hbl
                have hSt := Lib.hid (sl_take R.sl 0 hk)
                clear R hbl
                go_wp2_with (at_builtin; refine wpList_append_copy rfl _ _ 74 rfl 87 (.agg #[.int .i64 0, .int .i64 0]) 2 16 Try.underlying74 info_Due (by first | kernel_rfl | simp [Value.cells]) (by decide) w1.heap.size rfl w1.heap.size (some ⟨g0, 0, none⟩) 0 c0 ((DU y).take (0 * 2)) rfl (by unfold maxLen; omega) (by omega) (Blk.new_at _ _ _ _ rfl) (Nat.le_refl _) (hSt.out.alloc _) ?_; intro gm cm wm Rm bm lm om)
                have bm2 : Below w1.heap.size w1 wm := btr ((Below.refl _ _).alloc (Nat.le_refl _) _) (bm.mono (by simp))
                have RY := (HRR.out.alloc (.cells #[] 87)).below bm
                have hgm : w1.heap.size ≤ gm := Rm.ge _ rfl
                have HHM := Lib.hid (btr HBL.out (bm2.mono hz))
                clear bm om
                have hm0 : wm.cell? ⟨b0, off + j * 5, none⟩ = some (.int .i64 xi) := (bm2.cell (p := ⟨b0, off + j * 5, none⟩) hbr).trans h0
                have hm1 : wm.cell? ⟨b0, off + j * 5 + 1, none⟩ = some (.int .i64 xd) := (bm2.cell (p := ⟨b0, off + j * 5 + 1, none⟩) hbr).trans h1
                have hbm : b0 < wm.heap.size := Nat.lt_of_lt_of_le hbr bm2.size
                have hbg : b0 ≠ gm := by omega
                clear h0 h1
                have hS0 : ∀ o, wm.cell? ⟨b0, o, none⟩ = wm.cell? ⟨b0, o, none⟩ := fun _ => rfl
                have HRm := Lib.hid Rm
                go_region_held_law (fun w' => ∀ o, w'.cell? ⟨b0, o, none⟩ = wm.cell? ⟨b0, o, none⟩) (repeat' (first | assumption | with_reducible exact hS0 | with_reducible refine heldb_dr ?_ | with_reducible refine heldb_al ?_ ?_ _ | with_reducible refine heldb_wr (by assumption) ?_ ?_ ?_ | (simp; done) | (simp; omega)))
                  (first | (refine step_append_rowS rfl _ _ 74 rfl 87 (.agg #[.int .i64 0, .int .i64 0]) 2 16 Try.underlying74 info_Due (by first | kernel_rfl | simp [Value.cells]) (by decide) w1.heap.size gm 0 cm ((DU y).take (0 * 2)) rfl ((HRm.out.drew).alloc _) ⟨wm.heap.size, 0, none⟩ 1 1 [xi, xd] rfl rfl (cell_two_at' _ _ _ _ _ rfl) (by decide) (by unfold maxLen; omega) (by omega) (by have := bm2.size; simp; omega) ?_; intro gn cn wn Rn Wn Ln))
                have bn : Below w1.heap.size w1 wn := Wn.below (btr bm2 (((Below.refl w1.heap.size wm).drew).alloc bm2.size (.cells #[.int .i64 xi, .int .i64 xd] 87))) (by have := bm2.size; simp; omega) (fun x hx => by obtain rfl := Option.some.inj hx; exact hgm)
                have RN := ((RY.drew).alloc (.cells #[.int .i64 xi, .int .i64 xd] 87)).wrote Wn (fun a b ha hb => by injection ha with ha; injection hb with hb; subst ha; subst hb; show g0 ≠ gm; omega)
                clear RY Rm HRm Wn hm0 hm1
                have hzn := bn.size
                have hnews0 := slices_of (sl_drop RN.sl 0 hk) rfl
                simp only [Nat.zero_add] at hnews0
                have hnews := Lib.hid hnews0
                clear hnews0
                have hnewl : ((DU y).drop (0 * 2)).length = (y.length - 0) * 2 := by rw [List.length_drop, DU_len]; omega
                have HF := Lib.hid (show (DU y).take (0 * 2) ++ [xi, xd] ++ (DU y).drop (0 * 2) = DU (insDu y ⟨xi, xd⟩) by
                  have e := hins.out
                  unfold insDu
                  show _ = DU (y.take (kIns y xd) ++ _ :: y.drop (kIns y xd))
                  rw [e, DU_append, DU_cons, DU_take, DU_drop, List.append_assoc]
                  (try rfl))
                have HJ := Lib.hid (show insDu y ⟨xi, xd⟩ = openTo l (j + 1) by rw [hop.out, ← hy.out])
                by_cases hck : c0 = 0
                · have HLK := Lib.hid (show y.length - 0 = 0 by omega)
                  go_wp2_with (at_builtin; refine wpList_append_row2 rfl _ _ 74 rfl 87 (.agg #[.int .i64 0, .int .i64 0]) 2 16 Try.underlying74 info_Due (by first | kernel_rfl | simp [Value.cells]) (by decide) w1.heap.size (some ⟨gn, 0, none⟩) (0 + 1) cn ((DU y).take (0 * 2) ++ [xi, xd]) rfl Rn ⟨g0, 0, none⟩ (y.length - 0) _ ((DU y).drop (0 * 2)) rfl hnewl (fun q u hq => by have hx : (DU y).drop (0 * 2) = [] := List.eq_nil_of_length_eq_zero (by rw [hnewl, HLK.out]); rw [hx] at hq; simp [ints] at hq) (by unfold maxLen; omega) (by omega) hzn ?_; intro A5 c5 w5 R5 B5 W5 L5; obtain ⟨g5, cs5, rfl, _⟩ := R5.blk (by omega))
                  rw [HF.out] at R5
                  have hln : 0 + 1 + (y.length - 0) = (insDu y ⟨xi, xd⟩).length := by rw [insDu_len]; omega
                  rw [hln] at R5
                  first
                    | rw [hln]
                    | rw [show 1 + y.length = (insDu y ⟨xi, xd⟩).length by rw [insDu_len]; omega]
                  exact ⟨⟨j + 1, g5, c5, _, by omega, by go_num, rfl, R5.mono hz, HJ, btr HBL.out ((btr bn B5).mono hz)⟩, by simp [intOf]; omega⟩
                · go_wp2_with (at_builtin; refine wpList_append_row2 rfl _ _ 74 rfl 87 (.agg #[.int .i64 0, .int .i64 0]) 2 16 Try.underlying74 info_Due (by first | kernel_rfl | simp [Value.cells]) (by decide) w1.heap.size (some ⟨gn, 0, none⟩) (0 + 1) cn ((DU y).take (0 * 2) ++ [xi, xd]) rfl Rn ⟨g0, 0 * 2, none⟩ (y.length - 0) _ ((DU y).drop (0 * 2)) rfl hnewl hnews.out (by unfold maxLen; omega) (by omega) hzn ?_; intro A5 c5 w5 R5 B5 W5 L5; obtain ⟨g5, cs5, rfl, _⟩ := R5.blk (by omega))
                  rw [HF.out] at R5
                  have hln : 0 + 1 + (y.length - 0) = (insDu y ⟨xi, xd⟩).length := by rw [insDu_len]; omega
                  rw [hln] at R5
                  first
                    | rw [hln]
                    | rw [show 1 + y.length = (insDu y ⟨xi, xd⟩).length by rw [insDu_len]; omega]
                  exact ⟨⟨j + 1, g5, c5, _, by omega, by go_num, rfl, R5.mono hz, HJ, btr HBL.out ((btr bn B5).mono hz)⟩, by simp [intOf]; omega⟩
            · obtain ⟨kp, hkp⟩ : ∃ kp : Nat, k = kp + 1 := ⟨k - 1, by omega⟩
              have HKP := Lib.hid hkp
              have hkpl : kp < y.length := by omega
              have hw : IntKind.i64.wrap ((k : Int) - 1) = (kp : Int) := by rw [IntKind.wrap_i64]; omega
              have hkp0 : (0 : Int) ≤ (kp : Int) := by omega
              have hkpi : (kp : Int) < (y.length : Int) := by omega
              have hk0' : (0 : Int) < (k : Int) := by omega
              obtain ⟨b9, off9, hA9, hb9, hc9⟩ := sl_dues R.sl (by omega)
              injection hA9 with hA9
              injection hA9 with hA91 hA92
              subst hA91 hA92
              have hd := (hc9 kp hkpl).2
              simp only [Nat.zero_add] at hd
              clear hc9
              have hunf : kInsF y xd (kp + 1) = if xd < (y.getD kp default).d then kInsF y xd kp else kp + 1 := rfl
              obtain ⟨yd, hyd⟩ : ∃ x, (y.getD kp default).d = x := ⟨_, rfl⟩
              rw [hyd] at hd hunf
              have HUN := Lib.hid hunf
              clear hkp hyd hunf
              by_cases hlt : xd < yd
              · have hki2 := Lib.hid (show kIns y xd = kInsF y xd kp by rw [hki.out, HKP.out, HUN.out, if_pos hlt])
                clear hki
                go_wp2
                ((refine wp_region_ext (by kernel_rfl) (by kernel_rfl) ?_); (repeat (any_goals (first | go_big_quiet_step (fail) | (refine wpQuiet_step (fun K hK => ?_); go_simp; split <;> (refine hK _ ?_; clear hK K)) | quiet_step (fail)))); (all_goals (refine wpQuiet_nil ?_; rintro _ ⟨z, rfl⟩; have hb' := z.h; generalize z.w = w1 at hb' ⊢; clear z; (first | (have hb2 := bstep hb' hb hb.size; clear hb' hcb hfb hz1 hz2 hz3 hz4 hb; have hb := hb2; clear hb2) | (have hb := hb'; clear hb')); obtain ⟨hcb, hfb, hz1, hz2, hz3, hz4⟩ := bcell hb; (try simp only [World.size_alloc, World.size_setCell, World.size_drew, Nat.lt_add_one_iff, Nat.add_assoc, Nat.reduceAdd] at hz1 hz2 hz3 hz4))))
                all_goals go_wp2
                all_goals exact ⟨⟨kp, by omega, by go_num, hki2, R.below hb, bthen hbl hb⟩, by have := HKP.out; simp [intOf]; omega⟩
              · have hins := Lib.hid (show kIns y xd = k by rw [hki.out, HKP.out, HUN.out, if_neg hlt])
                have hdf : decide (xd < yd) = false := decide_eq_false hlt
                clear hki
                go_wp2
                ((refine wp_region_ext (by kernel_rfl) (by kernel_rfl) ?_); (repeat (any_goals (first | go_big_quiet_step (fail) | (refine wpQuiet_step (fun K hK => ?_); go_simp; split <;> (refine hK _ ?_; clear hK K)) | quiet_step (fail)))); (all_goals (refine wpQuiet_nil ?_; rintro _ ⟨z, rfl⟩; have hb' := z.h; generalize z.w = w1 at hb' ⊢; clear z; (first | (have hb2 := bstep hb' hb hb.size; clear hb' hcb hfb hz1 hz2 hz3 hz4 hb; have hb := hb2; clear hb2) | (have hb := hb'; clear hb')); obtain ⟨hcb, hfb, hz1, hz2, hz3, hz4⟩ := bcell hb; (try simp only [World.size_alloc, World.size_setCell, World.size_drew, Nat.lt_add_one_iff, Nat.add_assoc, Nat.reduceAdd] at hz1 hz2 hz3 hz4))))
                all_goals
                  replace R := R.below hb
                  replace hbl := bthen hbl hb
                  replace h0 : w1.cell? ⟨b0, off + j * 5, none⟩ = some (.int .i64 xi) := (hb.cell (p := ⟨b0, off + j * 5, none⟩) hbr).trans h0
                  replace h1 : w1.cell? ⟨b0, off + j * 5 + 1, none⟩ = some (.int .i64 xd) := (hb.cell (p := ⟨b0, off + j * 5 + 1, none⟩) hbr).trans h1
                  replace hbr := Nat.lt_of_lt_of_le hbr hb.size
                  clear hcb hfb hz1 hz2 hz3 hz4 hd
                  have hkl := hk
                  have hci := R.cap_le
                  have hkc : (k : Int) ≤ (c0 : Int) := by omega
                  have hkli : (k : Int) ≤ (y.length : Int) := by omega
                  have hk0i : (0 : Int) ≤ (k : Int) := by omega
                  have hz := hbl.size
                  have hg0 := R.lt _ rfl
                  have HRR := Lib.hid R
                  have HBL := Lib.hid hbl
                  have hSt := Lib.hid (sl_take R.sl k hk)
                  clear R hbl
                  go_wp2_with (at_builtin; refine wpList_append_copy rfl _ _ 74 rfl 87 (.agg #[.int .i64 0, .int .i64 0]) 2 16 Try.underlying74 info_Due (by first | kernel_rfl | simp [Value.cells]) (by decide) w1.heap.size rfl w1.heap.size (some ⟨g0, 0, none⟩) k c0 ((DU y).take (k * 2)) rfl (by unfold maxLen; omega) (by omega) (Blk.new_at _ _ _ _ rfl) (Nat.le_refl _) (hSt.out.alloc _) ?_; intro gm cm wm Rm bm lm om)
                  have bm2 : Below w1.heap.size w1 wm := btr ((Below.refl _ _).alloc (Nat.le_refl _) _) (bm.mono (by simp))
                  have RY := (HRR.out.alloc (.cells #[] 87)).below bm
                  have hgm : w1.heap.size ≤ gm := Rm.ge _ rfl
                  have HHM := Lib.hid (btr HBL.out (bm2.mono hz))
                  clear bm om
                  have hm0 : wm.cell? ⟨b0, off + j * 5, none⟩ = some (.int .i64 xi) := (bm2.cell (p := ⟨b0, off + j * 5, none⟩) hbr).trans h0
                  have hm1 : wm.cell? ⟨b0, off + j * 5 + 1, none⟩ = some (.int .i64 xd) := (bm2.cell (p := ⟨b0, off + j * 5 + 1, none⟩) hbr).trans h1
                  have hbm : b0 < wm.heap.size := Nat.lt_of_lt_of_le hbr bm2.size
                  have hbg : b0 ≠ gm := by omega
                  clear h0 h1
                  have hS0 : ∀ o, wm.cell? ⟨b0, o, none⟩ = wm.cell? ⟨b0, o, none⟩ := fun _ => rfl
                  have HRm := Lib.hid Rm
                  go_region_held_law (fun w' => ∀ o, w'.cell? ⟨b0, o, none⟩ = wm.cell? ⟨b0, o, none⟩) (repeat' (first | assumption | with_reducible exact hS0 | with_reducible refine heldb_dr ?_ | with_reducible refine heldb_al ?_ ?_ _ | with_reducible refine heldb_wr (by assumption) ?_ ?_ ?_ | (simp; done) | (simp; omega)))
                    (first | (refine step_append_rowS rfl _ _ 74 rfl 87 (.agg #[.int .i64 0, .int .i64 0]) 2 16 Try.underlying74 info_Due (by first | kernel_rfl | simp [Value.cells]) (by decide) w1.heap.size gm k cm ((DU y).take (k * 2)) rfl ((HRm.out.drew).alloc _) ⟨wm.heap.size, 0, none⟩ 1 1 [xi, xd] rfl rfl (cell_two_at' _ _ _ _ _ rfl) (by decide) (by unfold maxLen; omega) (by omega) (by have := bm2.size; simp; omega) ?_; intro gn cn wn Rn Wn Ln))
                  have bn : Below w1.heap.size w1 wn := Wn.below (btr bm2 (((Below.refl w1.heap.size wm).drew).alloc bm2.size (.cells #[.int .i64 xi, .int .i64 xd] 87))) (by have := bm2.size; simp; omega) (fun x hx => by obtain rfl := Option.some.inj hx; exact hgm)
                  have RN := ((RY.drew).alloc (.cells #[.int .i64 xi, .int .i64 xd] 87)).wrote Wn (fun a b ha hb => by injection ha with ha; injection hb with hb; subst ha; subst hb; show g0 ≠ gm; omega)
                  clear RY Rm HRm Wn hm0 hm1
                  have hzn := bn.size
                  have hnews0 := slices_of (sl_drop RN.sl k hk) rfl
                  simp only [Nat.zero_add] at hnews0
                  have hnews := Lib.hid hnews0
                  clear hnews0
                  have hnewl : ((DU y).drop (k * 2)).length = (y.length - k) * 2 := by rw [List.length_drop, DU_len]; omega
                  have HF := Lib.hid (show (DU y).take (k * 2) ++ [xi, xd] ++ (DU y).drop (k * 2) = DU (insDu y ⟨xi, xd⟩) by
                    have e := hins.out
                    unfold insDu
                    show _ = DU (y.take (kIns y xd) ++ _ :: y.drop (kIns y xd))
                    rw [e, DU_append, DU_cons, DU_take, DU_drop, List.append_assoc]
                    (try rfl))
                  have HJ := Lib.hid (show insDu y ⟨xi, xd⟩ = openTo l (j + 1) by rw [hop.out, ← hy.out])
                  by_cases hck : c0 = k
                  · have HLK := Lib.hid (show y.length - k = 0 by omega)
                    go_wp2_with (at_builtin; refine wpList_append_row2 rfl _ _ 74 rfl 87 (.agg #[.int .i64 0, .int .i64 0]) 2 16 Try.underlying74 info_Due (by first | kernel_rfl | simp [Value.cells]) (by decide) w1.heap.size (some ⟨gn, 0, none⟩) (k + 1) cn ((DU y).take (k * 2) ++ [xi, xd]) rfl Rn ⟨g0, 0, none⟩ (y.length - k) _ ((DU y).drop (k * 2)) rfl hnewl (fun q u hq => by have hx : (DU y).drop (k * 2) = [] := List.eq_nil_of_length_eq_zero (by rw [hnewl, HLK.out]); rw [hx] at hq; simp [ints] at hq) (by unfold maxLen; omega) (by omega) hzn ?_; intro A5 c5 w5 R5 B5 W5 L5; obtain ⟨g5, cs5, rfl, _⟩ := R5.blk (by omega))
                    rw [HF.out] at R5
                    have hln : k + 1 + (y.length - k) = (insDu y ⟨xi, xd⟩).length := by rw [insDu_len]; omega
                    rw [hln] at R5
                    first
                      | rw [hln]
                      | rw [show 1 + y.length = (insDu y ⟨xi, xd⟩).length by rw [insDu_len]; omega]
                    exact ⟨⟨j + 1, g5, c5, _, by omega, by go_num, rfl, R5.mono hz, HJ, btr HBL.out ((btr bn B5).mono hz)⟩, by simp [intOf]; omega⟩
                  · go_wp2_with (at_builtin; refine wpList_append_row2 rfl _ _ 74 rfl 87 (.agg #[.int .i64 0, .int .i64 0]) 2 16 Try.underlying74 info_Due (by first | kernel_rfl | simp [Value.cells]) (by decide) w1.heap.size (some ⟨gn, 0, none⟩) (k + 1) cn ((DU y).take (k * 2) ++ [xi, xd]) rfl Rn ⟨g0, k * 2, none⟩ (y.length - k) _ ((DU y).drop (k * 2)) rfl hnewl hnews.out (by unfold maxLen; omega) (by omega) hzn ?_; intro A5 c5 w5 R5 B5 W5 L5; obtain ⟨g5, cs5, rfl, _⟩ := R5.blk (by omega))
                    rw [HF.out] at R5
                    have hln : k + 1 + (y.length - k) = (insDu y ⟨xi, xd⟩).length := by rw [insDu_len]; omega
                    rw [hln] at R5
                    first
                      | rw [hln]
                      | rw [show 1 + y.length = (insDu y ⟨xi, xd⟩).length by rw [insDu_len]; omega]
                    exact ⟨⟨j + 1, g5, c5, _, by omega, by go_num, rfl, R5.mono hz, HJ, btr HBL.out ((btr bn B5).mono hz)⟩, by simp [intOf]; omega⟩
      · have hjn2 : j = n := by omega
        subst hjn2
        have hjn' : ¬ (j : Int) < (j : Int) := by omega
        go_wp2
        go_ret
        have e1 : y = openL l := by rw [hy.out]; unfold openL; rw [hL.out]
        subst e1
        exact RetRow.mk R hbl
end Go.Proofs.Ytgpllffiahccjaa
