/- The row cursor: next, take, done, over a row that came in. -/
import Derived.Test.YtgpllffiahccjaaCur
import Derived.Test.YtgpllffiahccjaaP7
import Derived.Test.YtgpllffiahccjaaReg
import Derived.Test.YtgpllffiahccjaaSet
namespace Go.Proofs.Ytgpllffiahccjaa
set_option linter.unusedSimpArgs false
set_option linter.unusedVariables false
attribute [local go_sem] n_lt2 n_lt3 n_lt4 n_le2 n_le3
open Go.RowKit
attribute [local go_sem] Ext.cell Ext.frozen

/-- Block p is a cursor over the slice A, n, cap, at place at. -/
def RCur (w : World) (p C : Nat) (A : Option Addr) (n cap at_ : Nat) : Prop := Blk w p C #[.slice A n cap, .int .i64 (at_ : Nat)]
theorem RCur.blk {w : World} {p C : Nat} {A : Option Addr} {n cap at_ : Nat} (h : RCur w p C A n cap at_) : Blk w p C #[.slice A n cap, .int .i64 (at_ : Nat)] := h
theorem wrote_drewN {w w' : World} {A : Option Addr} (h : Wrote w w' A) (k : Nat) : Wrote w (w'.drewN k) A := ⟨h.os, h.tape, h.output, h.size, h.block⟩
theorem wrote_refl (w : World) (A : Option Addr) : Wrote w w A := World.grownBy.refl _ _
theorem wrote_below {w w' : World} (h : Below w.heap.size w w') (A : Option Addr) : Wrote w w' A := ⟨h.os, h.tape, h.output, h.size, fun i hi _ => h.block i hi⟩
theorem wrote_then {w a b : World} {p : Nat} (h : Wrote w a (some ⟨p, 0, none⟩)) (hb : Below a.heap.size a b) : Wrote w b (some ⟨p, 0, none⟩) :=
  ⟨hb.os.trans h.os, hb.tape.trans h.tape, hb.output.trans h.output, Nat.le_trans h.size hb.size, fun i hi hn => (hb.block i (Nat.lt_of_lt_of_le hi h.size)).trans (h.block i hi hn)⟩
theorem wrote_trans {w a b : World} {p : Nat} (h : Wrote w a (some ⟨p, 0, none⟩)) (hb : Wrote a b (some ⟨p, 0, none⟩)) : Wrote w b (some ⟨p, 0, none⟩) :=
  ⟨hb.os.trans h.os, hb.tape.trans h.tape, hb.output.trans h.output, Nat.le_trans h.size hb.size, fun i hi hn => (hb.block i (Nat.lt_of_lt_of_le hi h.size) hn).trans (h.block i hi hn)⟩
theorem wrote_setp {w w' : World} {p : Nat} (h : Wrote w w' (some ⟨p, 0, none⟩)) (o : Nat) (u : Value) : Wrote w (w'.setCell ⟨p, o, none⟩ u) (some ⟨p, 0, none⟩) := wrote_set (p := ⟨p, o, none⟩) h rfl u

/-- What a reader of a list leaves: nothing was read; or the list. -/
def TakeNo (p C : Nat) (A : Option Addr) (n cap : Nat) (w : World) (e : Ending) (w' : World) : Prop := ∃ A' n' c' at', e = .returned (.tuple #[.slice A' n' c', .bool false]) ∧ at' ≤ n ∧ RCur w' p C A n cap at' ∧ Wrote w w' (some ⟨p, 0, none⟩)
def TakeYes (p C E s : Nat) (A : Option Addr) (n cap at_ m : Nat) (zs : List Int) (w : World) (e : Ending) (w' : World) : Prop := ∃ A' c', e = .returned (.tuple #[.slice A' m c', .bool true]) ∧ Row w' w.heap.size E s A' m c' zs ∧ RCur w' p C A n cap at_ ∧ Wrote w w' (some ⟨p, 0, none⟩)
theorem RCur.adv {w : World} {p C : Nat} {A : Option Addr} {n cap at_ : Nat} (h : Blk w p C #[.slice A n cap, .int .i64 (at_ : Nat)]) (a b k : Nat) (v : Int) (hv : v = ((at_ + k : Nat) : Int)) :
    RCur (((w.drewN a).setCell ⟨p, 1, none⟩ (.int .i64 v)).drewN b) p C A n cap (at_ + k) := by
  subst hv
  exact Blk.set_ (w := w.drewN a) h 1 _
set_option maxRecDepth 100000 in
set_option maxHeartbeats 800000 in
theorem copyRow_any (A : Option Addr) (n cap : Nat) (zs : List Int) (w : World) (hS : Sl w 1 A n zs) (hn : n ≤ 1048576) (hA : A = none → n = 0 ∧ cap = 0) :
    Calls Try.prog 150 #[.slice A n cap] w (RetRow w 2 1 n zs) := by
  have R0 : Row (w.alloc (.cells #[] 2)) w.heap.size 2 1 (some ⟨w.heap.size, 0, none⟩) 0 0 [] := row0p (Blk.new w _ _) (Nat.le_refl _)
  have hnw := fun ad (h : A = some ad) => sl_news (hS.below ((Below.refl w.heap.size w).alloc (Nat.le_refl _) (.cells #[] 2))) h
  have hPl : zs.length = n * 1 := hS.len
  cases A with
  | none =>
    obtain ⟨rfl, rfl⟩ := hA rfl
    have hz : zs = [] := List.eq_nil_of_length_eq_zero (by omega)
    rw [hz]
    obtain ⟨i0, hi0, hz0, hs0, hy0⟩ := info_parts info_Int64
    clear hnw hS hA hPl
    go_enter Try.func150, Try.ntmps150
    go_wp2_with (at_builtin; refine wpList_append_own_none rfl _ _ 39 rfl w.heap.size 2 i0 1 Try.underlying39 hi0 (.slice (some ⟨w.heap.size, 0, none⟩) 0 0) 0 [] rfl R0 rfl ?_)
    go_ret
    exact RetRow.mk R0 (by (repeat' (first | (with_reducible exact Below.refl _ _) | (with_reducible assumption) | (with_reducible refine Below.alloc ?_ ?_ _) | (with_reducible refine Below.drew ?_) | (with_reducible refine Below.setCell ?_ ?_ _) | (with_reducible refine bstep (by assumption) ?_ ?_) | (with_reducible exact Nat.le_refl _) | omega | (simp [*]; done) | (simp [*]; omega))))
  | some ad =>
    have hnw' := Lib.hid (hnw ad rfl)
    clear hnw hS hA
    go_enter Try.func150, Try.ntmps150
    go_wp2_with (at_builtin; refine wpList_append_row rfl _ _ 39 rfl 2 (.int .i64 0) 1 8 Try.underlying39 info_Int64 (by first | kernel_rfl | simp [Value.cells]) (by decide) w.heap.size (some ⟨w.heap.size, 0, none⟩) 0 0 [] rfl R0 ad n cap zs rfl hPl hnw'.out (by unfold maxLen; omega) (by omega) (by simp) ?_; intro A5 c5 w5 R5 B5)
    go_ret
    simp only [Nat.zero_add, List.nil_append] at R5 ⊢
    exact RetRow.mk R5 (((Below.refl w.heap.size w).alloc (Nat.le_refl _) _).trans B5)
set_option maxRecDepth 100000 in
set_option maxHeartbeats 800000 in
theorem next_yes (p n cap at_ : Nat) (b off : Nat) (x : Int) (w : World) (K : RCur w p 104 (some ⟨b, off, none⟩) n cap at_) (hx : w.cell? ⟨b, off + at_, none⟩ = some (.int .i64 x)) (hat : at_ < n) (hn : n ≤ maxLen) (hbp : b ≠ p) :
    Calls Try.prog 129 #[.pointer (some ⟨p, 0, none⟩)] w fun e w' => e = .returned (.tuple #[.int .i64 x, .bool true]) ∧ RCur w' p 104 (some ⟨b, off, none⟩) n cap (at_ + 1) ∧ Wrote w w' (some ⟨p, 0, none⟩) := by
  have q0 : w.cell? ⟨p, 0, none⟩ = some (.slice (some ⟨b, off, none⟩) n cap) := K.blk.cell 0
  have q1 : w.cell? ⟨p, 1, none⟩ = some (.int .i64 (at_ : Nat)) := K.blk.cell 1
  have qf := K.blk.frozen 1
  have hbp' : p ≠ b := Ne.symm hbp
  have HK := Lib.hid K.blk
  unfold maxLen at hn
  have hat' : (at_ : Int) < (n : Int) := by omega
  have hd : decide ((n : Int) ≤ (at_ : Int)) = false := decide_eq_false (by omega)
  clear K
  go_enter Try.func129, Try.ntmps129
  go_wp2
  go_quiet (fail)
  go_wp2
  go_quiet (fail)
  go_wp2
  refine bodyPost_ret (v := .tuple #[.int .i64 x, .bool true]) (by simp [results, Try.results129, go_sem, *]) rfl ⟨rfl, ?_, ?_⟩
  · exact RCur.adv HK.out _ _ 1 _ (by omega)
  · exact wrote_drewN (wrote_setp (wrote_drewN (wrote_refl _ _) _) _ _) _
set_option maxRecDepth 100000 in
set_option maxHeartbeats 800000 in
theorem next_no (p n cap : Nat) (A : Option Addr) (w : World) (K : RCur w p 104 A n cap n) (hn : n ≤ maxLen) :
    Calls Try.prog 129 #[.pointer (some ⟨p, 0, none⟩)] w fun e w' => e = .returned (.tuple #[.int .i64 0, .bool false]) ∧ RCur w' p 104 A n cap n ∧ Wrote w w' (some ⟨p, 0, none⟩) := by
  have q0 : w.cell? ⟨p, 0, none⟩ = some (.slice A n cap) := K.blk.cell 0
  have q1 : w.cell? ⟨p, 1, none⟩ = some (.int .i64 (n : Nat)) := K.blk.cell 1
  have HK := Lib.hid K.blk
  unfold maxLen at hn
  have hd : decide ((n : Int) ≤ (n : Int)) = true := decide_eq_true (by omega)
  clear K
  go_enter Try.func129, Try.ntmps129
  go_wp2
  go_quiet (fail)
  go_wp2
  refine bodyPost_ret (v := .tuple #[.int .i64 0, .bool false]) (by simp [results, Try.results129, go_sem, *]) rfl ⟨rfl, ?_, ?_⟩
  · exact HK.out
  · exact wrote_drewN (wrote_refl _ _) _
set_option maxRecDepth 100000 in
set_option maxHeartbeats 800000 in
theorem done_any (p n cap at_ : Nat) (A : Option Addr) (w : World) (K : RCur w p 104 A n cap at_) (hn : n ≤ maxLen) (hat : at_ ≤ n) :
    Calls Try.prog 87 #[.pointer (some ⟨p, 0, none⟩)] w fun e w' => e = .returned (.bool (decide (at_ = n))) ∧ RCur w' p 104 A n cap at_ ∧ Below w.heap.size w w' := by
  have q0 : w.cell? ⟨p, 0, none⟩ = some (.slice A n cap) := K.blk.cell 0
  have q1 : w.cell? ⟨p, 1, none⟩ = some (.int .i64 (at_ : Nat)) := K.blk.cell 1
  have HK := Lib.hid K.blk
  unfold maxLen at hn
  clear K
  go_enter Try.func87, Try.ntmps87
  go_wp2
  go_quiet (fail)
  go_wp2
  go_ret
  refine ⟨ret_bool ?_, HK.out, below_drewN (Below.refl _ _) _⟩
  by_cases h : at_ = n
  · subst h; simp
  · rw [decide_eq_false h]
    exact (beq_eq_false_iff_ne.2 (by omega))
set_option maxRecDepth 100000 in
set_option maxHeartbeats 800000 in
theorem take_no (p n cap at_ : Nat) (A : Option Addr) (m : Int) (w : World) (K : RCur w p 104 A n cap at_) (hn : n ≤ maxLen) (hat : at_ ≤ n) (hm : (n : Int) - at_ < m) :
    Calls Try.prog 130 #[.pointer (some ⟨p, 0, none⟩), .int .i64 m] w fun e w' => e = .returned (.tuple #[.slice none 0 0, .bool false]) ∧ RCur w' p 104 A n cap at_ ∧ Wrote w w' (some ⟨p, 0, none⟩) := by
  have q0 : w.cell? ⟨p, 0, none⟩ = some (.slice A n cap) := K.blk.cell 0
  have q1 : w.cell? ⟨p, 1, none⟩ = some (.int .i64 (at_ : Nat)) := K.blk.cell 1
  have HK := Lib.hid K.blk
  unfold maxLen at hn
  have hd0 : decide (m < 0) = false := decide_eq_false (by omega)
  have hd1 : decide ((n : Int) - (at_ : Int) < m) = true := decide_eq_true hm
  clear K
  go_enter Try.func130, Try.ntmps130
  go_wp2
  go_quiet (fail)
  go_wp2
  refine bodyPost_ret (v := .tuple #[.slice none 0 0, .bool false]) (by simp [results, Try.results130, go_sem, *]) rfl ⟨rfl, ?_, ?_⟩
  · exact HK.out
  · exact wrote_drewN (wrote_refl _ _) _
set_option maxRecDepth 100000 in
set_option maxHeartbeats 1600000 in
theorem take_yes (p n cap at_ m : Nat) (b off : Nat) (zs : List Int) (w : World) (K : RCur w p 104 (some ⟨b, off, none⟩) n cap at_) (hS : Sl w 1 (some ⟨b, off, none⟩) n zs) (hn : n ≤ 1048576) (hc : n ≤ cap) (hcm : cap ≤ maxLen) (hm : at_ + m ≤ n) (hat : at_ < n) (hbp : b ≠ p) :
    Calls Try.prog 130 #[.pointer (some ⟨p, 0, none⟩), .int .i64 (m : Nat)] w fun e w' => ∃ A' c', e = .returned (.tuple #[.slice A' m c', .bool true]) ∧ Row w' w.heap.size 2 1 A' m c' ((zs.drop at_).take m) ∧ RCur w' p 104 (some ⟨b, off, none⟩) n cap (at_ + m) ∧ Wrote w w' (some ⟨p, 0, none⟩) := by
  have q0 : w.cell? ⟨p, 0, none⟩ = some (.slice (some ⟨b, off, none⟩) n cap) := K.blk.cell 0
  have q1 : w.cell? ⟨p, 1, none⟩ = some (.int .i64 (at_ : Nat)) := K.blk.cell 1
  have qf := K.blk.frozen 1
  have HK := Lib.hid K.blk
  have HS := Lib.hid hS
  unfold maxLen at hcm
  have hd0 : decide ((m : Int) < 0) = false := decide_eq_false (by omega)
  have hd1 : decide ((n : Int) - (at_ : Int) < (m : Int)) = false := decide_eq_false (by omega)
  clear K hS
  go_enter Try.func130, Try.ntmps130
  go_wp2
  go_quiet (fail)
  go_wp2
  refine wp_region_tail 15 (by kernel_rfl) (by kernel_rfl) ?_
  intro wt hwt
  have K2 : Blk wt p 104 #[.slice (some ⟨b, off, none⟩) n cap, .int .i64 (at_ : Nat)] := by rw [hwt]; exact HK.out
  have S2 : Sl wt 1 (some ⟨b, off, none⟩) n zs := by rw [hwt]; exact HS.out
  have b2 : Below w.heap.size w wt := by rw [hwt]; exact below_drewN (below_drewN (Below.refl _ _) _) _
  clear hwt q0 q1 qf
  have q0 : wt.cell? ⟨p, 0, none⟩ = some (.slice (some ⟨b, off, none⟩) n cap) := K2.cell 0
  have q1 : wt.cell? ⟨p, 1, none⟩ = some (.int .i64 (at_ : Nat)) := K2.cell 1
  have HK2 := Lib.hid K2
  have HS2 := Lib.hid S2
  clear K2 S2
  have hb1 : (at_ : Int) ≤ (at_ : Int) + (m : Int) := by omega
  have hb2 : (at_ : Int) + (m : Int) ≤ (cap : Int) := by omega
  have hb3 : ¬ (cap = at_) := by omega
  have hb4 : (0 : Int) ≤ (at_ : Int) + (m : Int) := by omega
  have hb5 : ((at_ : Int) + (m : Int)).toNat = at_ + m := by omega
  have hw64 : wrap64 ((at_ : Int) + (m : Int)) = (at_ : Int) + (m : Int) := by unfold wrap64; omega
  have hwk : IntKind.i64.wrap ((at_ : Int) + (m : Int)) = (at_ : Int) + (m : Int) := by first | exact hw64 | (simp [IntKind.wrap, IntKind.bits, IntKind.signed]; omega)
  simp only [List.take_succ_cons, List.take_zero, List.drop_succ_cons, List.drop_zero]
  repeat still_step
  refine wpStill_nil ?_
  go_wp2_with fail
  refine (copyRow_any _ m _ ((zs.drop at_).take m) wt (HS2.out.sub at_ m hm) (by omega) (by simp)).mono ?_
  rintro e w3 ⟨A', c', rfl, R', b3⟩
  have K3 := HK2.out.below b3
  have r1 : w3.cell? ⟨p, 1, none⟩ = some (.int .i64 (at_ : Nat)) := K3.cell 1
  have rf := K3.frozen 1
  have hpl := HK2.out.lt
  have HK3 := Lib.hid K3
  clear q0 q1 K3
  go_wp2
  refine bodyPost_ret (v := .tuple #[.slice A' m c', .bool true]) (by simp [results, Try.results130, go_sem, *]) rfl ⟨A', c', rfl, ?_, ?_, ?_⟩
  · refine (R'.mono b2.size).keep (fun a ha => Below.heap_setCell w3 _ _ a.block ?_)
    have := R'.ge a ha
    show a.block ≠ p
    omega
  · exact RCur.adv HK3.out 0 0 m _ (by omega)
  · exact wrote_setp (wrote_below (bthen b2 b3) _) _ _
set_option maxRecDepth 100000 in
set_option maxHeartbeats 1600000 in
theorem take_end (p n cap : Nat) (b off : Nat) (w : World) (K : RCur w p 104 (some ⟨b, off, none⟩) n cap n) (hn : n ≤ 1048576) (hc : n ≤ cap) (hcm : cap ≤ maxLen) :
    Calls Try.prog 130 #[.pointer (some ⟨p, 0, none⟩), .int .i64 0] w fun e w' => ∃ A' c', e = .returned (.tuple #[.slice A' 0 c', .bool true]) ∧ Row w' w.heap.size 2 1 A' 0 c' [] ∧ RCur w' p 104 (some ⟨b, off, none⟩) n cap n ∧ Wrote w w' (some ⟨p, 0, none⟩) := by
  have q0 : w.cell? ⟨p, 0, none⟩ = some (.slice (some ⟨b, off, none⟩) n cap) := K.blk.cell 0
  have q1 : w.cell? ⟨p, 1, none⟩ = some (.int .i64 (n : Nat)) := K.blk.cell 1
  have qf := K.blk.frozen 1
  have HK := Lib.hid K.blk
  unfold maxLen at hcm
  have hd0 : decide ((0 : Int) < 0) = false := decide_eq_false (by omega)
  have hd1 : decide ((n : Int) - (n : Int) < 0) = false := decide_eq_false (by omega)
  clear K
  by_cases hcn : cap = n
  all_goals
    go_enter Try.func130, Try.ntmps130
    go_wp2
    go_quiet (fail)
    go_wp2
    refine wp_region_tail 15 (by kernel_rfl) (by kernel_rfl) ?_
    intro wt hwt
    have K2 : Blk wt p 104 #[.slice (some ⟨b, off, none⟩) n cap, .int .i64 (n : Nat)] := by rw [hwt]; exact HK.out
    have b2 : Below w.heap.size w wt := by rw [hwt]; exact below_drewN (below_drewN (Below.refl _ _) _) _
    clear hwt q0 q1 qf
    have q0 : wt.cell? ⟨p, 0, none⟩ = some (.slice (some ⟨b, off, none⟩) n cap) := K2.cell 0
    have q1 : wt.cell? ⟨p, 1, none⟩ = some (.int .i64 (n : Nat)) := K2.cell 1
    have HK2 := Lib.hid K2
    clear K2
    have hwk : IntKind.i64.wrap ((n : Int) + 0) = (n : Int) := by simp [IntKind.wrap, IntKind.bits, IntKind.signed]; omega
    have hwk2 : IntKind.i64.wrap (n : Int) = (n : Int) := by simp [IntKind.wrap, IntKind.bits, IntKind.signed]; omega
    simp only [List.take_succ_cons, List.take_zero, List.drop_succ_cons, List.drop_zero]
    repeat still_step
    refine wpStill_nil ?_
    go_wp2_with fail
    refine (copyRow_any _ 0 _ [] wt (Sl.nil _ _ _) (by omega) (by simp)).mono ?_
    rintro e w3 ⟨A', c', rfl, R', b3⟩
    have K3 := HK2.out.below b3
    have r1 : w3.cell? ⟨p, 1, none⟩ = some (.int .i64 (n : Nat)) := K3.cell 1
    have rf := K3.frozen 1
    have hpl := HK2.out.lt
    have HK3 := Lib.hid K3
    clear q0 q1 K3
    go_wp2
    refine bodyPost_ret (v := .tuple #[.slice A' 0 c', .bool true]) (by simp [results, Try.results130, go_sem, *]) rfl ⟨A', c', rfl, ?_, ?_, ?_⟩
    · refine (R'.mono b2.size).keep (fun a ha => Below.heap_setCell w3 _ _ a.block ?_)
      have := R'.ge a ha
      show a.block ≠ p
      omega
    · exact RCur.adv HK3.out 0 0 0 _ (by omega)
    · exact wrote_setp (wrote_below (bthen b2 b3) _) _ _
/-- take of m numbers, m a number of the caller's. -/
theorem take_all (p n cap at_ m : Nat) (b off : Nat) (mi : Int) (zs : List Int) (w : World) (K : RCur w p 104 (some ⟨b, off, none⟩) n cap at_) (hS : Sl w 1 (some ⟨b, off, none⟩) n zs) (hn : n ≤ 1048576) (hc : n ≤ cap) (hcm : cap ≤ maxLen) (hm : at_ + m ≤ n) (hbp : b ≠ p) (hmi : mi = ((m : Nat) : Int)) :
    Calls Try.prog 130 #[.pointer (some ⟨p, 0, none⟩), .int .i64 mi] w fun e w' => ∃ A' c', e = .returned (.tuple #[.slice A' m c', .bool true]) ∧ Row w' w.heap.size 2 1 A' m c' ((zs.drop at_).take m) ∧ RCur w' p 104 (some ⟨b, off, none⟩) n cap (at_ + m) ∧ Wrote w w' (some ⟨p, 0, none⟩) := by
  subst hmi
  by_cases hat : at_ < n
  · exact take_yes p n cap at_ m b off zs w K hS hn hc hcm hm hat hbp
  · obtain rfl : at_ = n := by omega
    obtain rfl : m = 0 := by omega
    exact take_end p at_ cap b off w K hn hc hcm
end Go.Proofs.Ytgpllffiahccjaa
