/- OpenJobs: its order, and slices.SortFunc by it. -/
import Derived.Test.YtgpllffiahccjaaK5
import Derived.Test.YtgpllffiahccjaaSDue
import Derived.Deep.RegionHeldLaw
namespace Go.Proofs.Ytgpllffiahccjaa
set_option linter.unusedSimpArgs false
set_option linter.unusedVariables false
attribute [local go_sem] n_lt2 n_lt3 n_lt4 n_le2 n_le3
open Go.RowKit Go.Sort Go.Shelf
attribute [local go_sem] Ext.cell Ext.frozen
theorem held_al {W v : World} (h : ∀ b o, b < W.heap.size → v.cell? ⟨b, o, none⟩ = W.cell? ⟨b, o, none⟩) (hz : W.heap.size ≤ v.heap.size) (x : Obj) : ∀ b o, b < W.heap.size → (v.alloc x).cell? ⟨b, o, none⟩ = W.cell? ⟨b, o, none⟩ :=
  fun b o hb => (((Below.refl v.heap.size v).alloc (Nat.le_refl _) x).cell (p := ⟨b, o, none⟩) (Nat.lt_of_lt_of_le hb hz)).trans (h b o hb)
theorem held_dr {W v : World} (h : ∀ b o, b < W.heap.size → v.cell? ⟨b, o, none⟩ = W.cell? ⟨b, o, none⟩) : ∀ b o, b < W.heap.size → v.drew.cell? ⟨b, o, none⟩ = W.cell? ⟨b, o, none⟩ := h
set_option maxHeartbeats 1000000 in
theorem or2_any (g : Nat) (c1 c2 : Int) (w : World) (h0 : w.cell? ⟨g, 0, none⟩ = some (.int .i64 c1)) (h1 : w.cell? ⟨g, 1, none⟩ = some (.int .i64 c2)) (hg : g < w.heap.size) :
    Calls Try.prog 120 #[.slice (some ⟨g, 0, none⟩) 2 2] w fun e w' => e = .returned (.int .i64 (if c1 = 0 then c2 else c1)) ∧ w' = w := by
  obtain ⟨r, hr⟩ : ∃ x, (if c1 = 0 then c2 else c1) = x := ⟨_, rfl⟩
  rw [hr]
  have HR := Lib.hid hr
  clear hr
  go_enter Try.func120, Try.ntmps120
  go_wp2
  go_loopw [8] (fun i wr => ∃ k : Nat, k ≤ 2 ∧ i = .int .i64 (k : Nat) ∧ wr = w ∧ Hid ((0 < k → c1 = 0) ∧ (1 < k → c2 = 0))) (fun i _ => 2 - (intOf i).toNat)
  case atStart => exact ⟨0, by omega, rfl, rfl, Lib.hid ⟨fun h => absurd h (by omega), fun h => absurd h (by omega)⟩⟩
  case round =>
    obtain ⟨k, hk, rfl, rfl, hz⟩ := hrel
    rcases (by omega : k = 0 ∨ k = 1 ∨ k = 2) with rfl | rfl | rfl
    · by_cases hc : c1 = 0
      · have HC := Lib.hid hc
        subst hc
        go_wp2
        exact ⟨⟨1, by omega, by go_num, by trivial, Lib.hid ⟨fun _ => by trivial, fun h => absurd h (by omega)⟩⟩, by simp [intOf]⟩
      · have hcb : (c1 == 0) = false := by rw [beqD]; exact decide_eq_false hc
        go_wp2
        go_ret
        exact ⟨ret_int (by have := HR.out; rw [if_neg hc] at this; exact this), rfl⟩
    · have hc1 := hz.out.1 (by omega)
      by_cases hc : c2 = 0
      · subst hc
        have hr0 : r = 0 := by have := HR.out; rw [if_pos hc1] at this; exact this.symm
        clear hz
        go_wp2
        exact ⟨⟨2, by omega, by go_num, by trivial, Lib.hid ⟨fun _ => hc1, fun _ => by trivial⟩⟩, by simp [intOf]⟩
      · have hcb : (c2 == 0) = false := by rw [beqD]; exact decide_eq_false hc
        have hr2 : c2 = r := by have := HR.out; rw [if_pos hc1] at this; exact this
        have HR2 := Lib.hid hr2
        clear hz hr2
        go_wp2
        go_ret
        exact ⟨ret_int HR2.out, rfl⟩
    · have hc1 := hz.out.1 (by omega)
      have hc2 := hz.out.2 (by omega)
      have hr0 : (0 : Int) = r := by have := HR.out; rw [if_pos hc1, hc2] at this; exact this
      have HR2 := Lib.hid hr0
      clear hz hr0
      go_wp2
      go_ret
      exact ⟨ret_int HR2.out, rfl⟩
def flD (j : Du) : List Int := [j.i, j.d]
def cmpD (x y : Du) : Int := if Lib.compareInt x.d y.d = 0 then Lib.compareInt x.i y.i else Lib.compareInt x.d y.d
theorem cmpD_lt (x y : Du) : cmpD x y < 0 ↔ duLt x y := by
  unfold cmpD duLt Lib.compareInt
  repeat' split
  all_goals omega
theorem grow3 (W : World) (a b c : Obj) : (((W.alloc a).alloc b).drew).alloc c = grow (W.drewN 1) #[a, b, c] := by
  rw [alloc_eq_grow, alloc_eq_grow, alloc_eq_grow, grow_grow]
  show grow (grow W.drew (#[a] ++ #[b])) #[c] = _
  rw [grow_grow]
  rfl
set_option maxHeartbeats 4000000 in
theorem openLt_any (x y : Du) (W : World) : Calls Try.prog 119 #[.agg (encI flD x).toArray, .agg (encI flD y).toArray] W fun e w' => e = .returned (.int .i64 (cmpD x y)) ∧ ∃ q os', w' = grow (W.drewN q) os' := by
  obtain ⟨x0, x1⟩ := x
  obtain ⟨y0, y1⟩ := y
  have k1 := fun W' => compare64_any x1 y1 W'
  have k2 := fun W' => compare64_any x0 y0 W'
  show Calls Try.prog 119 #[.agg #[.int .i64 x0, .int .i64 x1], .agg #[.int .i64 y0, .int .i64 y1]] W _
  unfold cmpD
  simp only
  generalize Lib.compareInt x1 y1 = c1 at k1 ⊢
  generalize Lib.compareInt x0 y0 = c2 at k2 ⊢
  obtain ⟨r, hr⟩ : ∃ x, (if c1 = 0 then c2 else c1) = x := ⟨_, rfl⟩
  rw [hr]
  have HR := Lib.hid hr
  have K1 := Lib.hid k1
  have K2 := Lib.hid k2
  clear k1 k2 hr
  go_enter Try.func119, Try.ntmps119
  go_wp2_with fail
  obtain ⟨V, hV⟩ : ∃ x : World, x = (W.alloc (.cells #[.int .i64 x0, .int .i64 x1] 87)).alloc (.cells #[.int .i64 y0, .int .i64 y1] 87) := ⟨_, rfl⟩
  rw [← hV]
  have BX : Blk V W.heap.size 87 #[.int .i64 x0, .int .i64 x1] := by rw [hV]; exact (Blk.new_at _ _ _ _ rfl).alloc _
  have BY : Blk V (W.heap.size + 1) 87 #[.int .i64 y0, .int .i64 y1] := by rw [hV]; exact Blk.new_at _ _ _ _ (by simp)
  have HV := Lib.hid hV
  clear hV
  have a0 := BX.cell 0
  have a1 := BX.cell 1
  have b0 := BY.cell 0
  have b1 := BY.cell 1
  have la := BX.lt
  have lb := BY.lt
  simp only [List.getElem?_toArray, List.getElem?_cons_zero, List.getElem?_cons_succ] at a0 a1 b0 b1
  have hS0 : ∀ b o, b < V.heap.size → V.cell? ⟨b, o, none⟩ = V.cell? ⟨b, o, none⟩ := fun b o hb => rfl
  have hOr0 := fun (t : TypeId) => or2_any V.heap.size c1 c2 (V.drew.alloc (.cells #[.int .i64 c1, .int .i64 c2] t)) ((Blk.new V.drew t _).cell 0) ((Blk.new V.drew t _).cell 1) ((Blk.new V.drew t _).lt)
  rw [HR.out] at hOr0
  have hOr := Lib.hid hOr0
  clear hOr0
  go_region_held_law (fun w' => ∀ b o, b < V.heap.size → w'.cell? ⟨b, o, none⟩ = V.cell? ⟨b, o, none⟩) (repeat' (first | assumption | with_reducible exact Nat.le_refl _ | with_reducible exact hS0 | with_reducible refine held_dr ?_ | with_reducible refine held_al ?_ ?_ _)) (first
    | (go_at_call 120; refine (hOr.out _).mono ?_; rintro e w' ⟨rfl, rfl⟩)
    | (go_at_call 121; with_reducible refine (K1.out _).mono ?_; rintro e w' ⟨rfl, rfl⟩)
    | (go_at_call 121; with_reducible refine (K2.out _).mono ?_; rintro e w' ⟨rfl, rfl⟩))
  go_wp2
  go_ret
  exact ⟨rfl, 1, _, by rw [HV.out]; exact grow3 _ _ _ _⟩
theorem isAggDue (w : World) : (isAgg 87).run Try.prog w = .ok true w := by kernel_rfl
theorem sizeOfDue (w : World) : (Go.sizeOf 87).run Try.prog w = .ok 2 w := by kernel_rfl
theorem ltD_swo : SWO (ltOf cmpD) := by
  constructor
  · intro x; unfold ltOf; rw [decide_eq_false]; rw [cmpD_lt]; unfold duLt; omega
  · intro x y z h1 h2; unfold ltOf at *; rw [decide_eq_true_eq, cmpD_lt] at *; unfold duLt at *; omega
  · intro x y z h1 h2; unfold ltOf at *; rw [decide_eq_false_iff_not, cmpD_lt] at *; unfold duLt at *; omega
set_option maxHeartbeats 1000000 in
/-- slices.SortFunc on a row of the call's own, by Due and then by Id. -/
theorem sortOpen_any (lo g n cap : Nat) (l : List Du) (w : World) (hl : l.length = n) (hn : n ≤ 12) (R : Row w lo 87 2 (some ⟨g, 0, none⟩) n cap (DU l)) :
    Calls Try.prog 118 #[.slice (some ⟨g, 0, none⟩) n cap, .func (.func 119) #[] #[]] w fun e w' => e = .returned (.tuple #[]) ∧ ∃ s : List Du, s.Perm l ∧ s.Pairwise (fun a b => ¬ duLt b a) ∧ Row w' lo 87 2 (some ⟨g, 0, none⟩) n cap (DU s) ∧ Wrote w w' (some ⟨g, 0, none⟩) := by
  have eg : ∀ args w, (callFunc 119 args).run Try.prog w = .ok (.enter 119 args) w := enters_of Try.func119 (by kernel_rfl) rfl
  have hk : ∀ x, (flD x).length = 2 := fun _ => rfl
  have hsz : l.toArray.size = n := by simpa using hl
  have hcon := AnyQ.slices_SortFunc_small_sorted sortDue 2 isAggDue sizeOfDue (encI flD) (fun x => by unfold encI; rw [ints_length]; exact hk x) (fun x v hv => ints_oneCell' _ v hv) cmpD 119 #[] ltD_swo g 0 cap l.toArray w eg (fun _ _ _ _ x y => openLt_any x y _) (holdsK_of flD 2 hk (by decide) hl R) (R.lt _ rfl) (by rw [hsz]; exact hn) hlenX
  rw [hsz] at hcon
  refine hcon.mono ?_
  rintro e w' ⟨rfl, d, m, os, hp, hs, rfl⟩
  have hdn : d.size = n := by rw [hp.1]; exact hsz
  obtain ⟨r1, r2⟩ := row_sorted flD 2 hk (by decide) R m d os hdn
  rw [← hsz] at hp
  refine ⟨rfl, d.toList, by simpa using permIn_all hp, ?_, r1, r2⟩
  have := sortedIn_all hdn.symm hs
  refine this.imp (fun {a b} h => ?_)
  unfold ltOf at h
  rw [decide_eq_false_iff_not, cmpD_lt] at h
  exact h
end Go.Proofs.Ytgpllffiahccjaa
