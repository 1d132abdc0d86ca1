/- Part 9 of what the claim rests on: T7. No condition of its own. -/
import Derived.Test.YtokklkmibjpjnaaGreatBd8
namespace Go.Proofs.YtokklkmibjpjnaaGreat
set_option linter.unusedSimpArgs false
set_option linter.unusedVariables false
attribute [local go_sem] n_lt2 n_lt3 n_lt4 n_le2 n_le3
open Go.RowKit
theorem nextInB_mk {i0 t0 l0 l1 l2 : Int} {pl : List Pr} {ql : List Jb} {ex et ec es ek ea eb eg eh : Int} (h : stateB i0 t0 l0 l1 l2 pl ql = true) (h2 : nextB i0 t0 ex et ec es ek ea eb eg eh = true) : nextInB i0 t0 l0 l1 l2 pl ql ex et ec es ek ea eb eg eh = true := by
  unfold nextInB
  rw [h, h2]
  rfl
theorem specApplied_g (A : Option Addr) (n c : Nat) (B : Option Addr) (m d : Nat) (i0 t0 l0 l1 l2 : Int) (pl : List Pr) (ql : List Jb) (ex et ec es ek ea eb eg eh : Int) (w : World) (hP : Sl w 2 A n (PR pl)) (hQ : Sl w 5 B m (JB ql)) (hl : pl.length = n) (hr : ql.length = m) (hn : n ≤ maxLen) (hm : m ≤ maxLen) (hA : A = none → n = 0 ∧ c = 0) (hB : B = none → m = 0 ∧ d = 0) (ri rt rh re ru : Int) (rp : List Pr) (rq : List Jb) (rn rm : Nat) (rb : Bool) (hres : AppIs i0 t0 l0 l1 l2 pl ql ex et ec es ek ea eb eg eh ri rt rh re ru rp rq rn rm rb) :
    Calls Tryz.prog 7 #[.agg #[.int .i64 i0, .int .i64 t0, .slice A n c, .slice B m d, .int .i64 l0, .int .i64 l1, .int .i64 l2], .agg #[.int .i64 ex, .int .i64 et, .int .i64 ec, .int .i64 es, .int .i64 ek, .int .i64 ea, .int .i64 eb, .int .i64 eg, .int .i64 eh]] w (RetStateV w ri rt rh re ru rn (PR rp) rm (JB rq) (.bool rb)) := by
  obtain ⟨h1, h2, h3⟩ := hres
  subst h2 h3
  unfold appR at h1
  cases q1 : stateB i0 t0 l0 l1 l2 pl ql with
  | false =>
    rw [if_neg (by rw [q1]; decide)] at h1
    injection h1 with h1 h4
    injection h1 with h1 h5
    injection h5 with h5 h6
    injection h6 with h6 h7 h8 h9 h10
    subst h1 h5 h6 h7 h8 h9 h10 h4
    exact specApp_bad A n c B m d i0 t0 l0 l1 l2 pl ql ex et ec es ek ea eb eg eh w hP hQ hl hr hn hm hA hB (Lib.hid q1)
  | true =>
  rw [if_pos q1] at h1
  have hle := stateB_lens q1
  have hn10 : n ≤ 10 := by omega
  have hm8 : m ≤ 8 := by omega
  cases q2 : nextB i0 t0 ex et ec es ek ea eb eg eh with
  | false =>
    rw [if_neg (by rw [q2]; decide)] at h1
    injection h1 with h1 h4
    injection h1 with h1 h5
    injection h5 with h5 h6
    injection h6 with h6 h7 h8 h9 h10
    subst h1 h5 h6 h7 h8 h9 h10 h4
    exact specApp_not A n c B m d i0 t0 l0 l1 l2 pl ql ex et ec es ek ea eb eg eh w hP hQ hl hr hn hm hA hB (Lib.hid q1) hn10 hm8 (Lib.hid (by unfold effI nextInB; rw [q1, q2]; rfl))
  | true =>
  rw [if_pos q2] at h1
  injection h1 with h1 h4
  injection h1 with h1 h5
  injection h5 with h5 h1
  subst ri rt rb
  rcases nextB_kind q2 with rfl | rfl | rfl | rfl | rfl
  · have hN := nextInB_mk q1 q2
    cases hok : (putR pl ea eb).2 with
    | false =>
      have e0 : (effE l0 l1 l2 pl ql ex et ec es 1 ea eb eg eh).2 = false := by rw [effE_1]; exact hok
      have hx0 : effI i0 t0 l0 l1 l2 pl ql ex et ec es 1 ea eb eg eh = 0 := by unfold effI appI; rw [if_pos hN, if_neg (by rw [e0]; decide)]
      unfold appE at h1
      rw [if_neg (by rw [e0]; decide)] at h1
      injection h1 with z1 z2 z3 z4 z5
      subst z1 z2 z3 z4 z5
      exact specApp_0 A n c B m d i0 t0 l0 l1 l2 pl ql ex et ec es 1 ea eb eg eh w hP hQ hl hr hn hm hA hB (Lib.hid q1) hn10 hm8 (Lib.hid hx0)
    | true =>
      have e0 : (effE l0 l1 l2 pl ql ex et ec es 1 ea eb eg eh).2 = true := by rw [effE_1]; exact hok
      have hx1 : effI i0 t0 l0 l1 l2 pl ql ex et ec es 1 ea eb eg eh = 1 := by unfold effI appI; rw [if_pos hN, if_pos e0]
      unfold appE at h1
      rw [if_pos e0, effE_1] at h1
      injection h1 with z1 z2 z3 z4 z5
      subst z1 z2 z3 z4 z5
      exact specApp_1 A n c B m d i0 t0 l0 l1 l2 pl ql ex et ec es ea eb eg eh w hP hQ hl hr hn hm hA hB (Lib.hid q1) hn10 hm8 (Lib.hid hx1) _ _ _ (Lib.hid rfl) (Lib.hid rfl)
  · have hN := nextInB_mk q1 q2
    cases hok : (cutR pl ea).2 with
    | false =>
      have e0 : (effE l0 l1 l2 pl ql ex et ec es 2 ea eb eg eh).2 = false := by rw [effE_2]; exact hok
      have hx0 : effI i0 t0 l0 l1 l2 pl ql ex et ec es 2 ea eb eg eh = 0 := by unfold effI appI; rw [if_pos hN, if_neg (by rw [e0]; decide)]
      unfold appE at h1
      rw [if_neg (by rw [e0]; decide)] at h1
      injection h1 with z1 z2 z3 z4 z5
      subst z1 z2 z3 z4 z5
      exact specApp_0 A n c B m d i0 t0 l0 l1 l2 pl ql ex et ec es 2 ea eb eg eh w hP hQ hl hr hn hm hA hB (Lib.hid q1) hn10 hm8 (Lib.hid hx0)
    | true =>
      have e0 : (effE l0 l1 l2 pl ql ex et ec es 2 ea eb eg eh).2 = true := by rw [effE_2]; exact hok
      have hx1 : effI i0 t0 l0 l1 l2 pl ql ex et ec es 2 ea eb eg eh = 2 := by unfold effI appI; rw [if_pos hN, if_pos e0]
      unfold appE at h1
      rw [if_pos e0, effE_2] at h1
      injection h1 with z1 z2 z3 z4 z5
      subst z1 z2 z3 z4 z5
      exact specApp_2 A n c B m d i0 t0 l0 l1 l2 pl ql ex et ec es ea eb eg eh w hP hQ hl hr hn hm hA hB (Lib.hid q1) hn10 hm8 (Lib.hid hx1) _ _ _ (Lib.hid rfl) (Lib.hid rfl)
  · have hN := nextInB_mk q1 q2
    cases hok : (addR ql ⟨ea, eb, eg, eh, 0⟩).2 with
    | false =>
      have e0 : (effE l0 l1 l2 pl ql ex et ec es 3 ea eb eg eh).2 = false := by rw [effE_3]; exact hok
      have hx0 : effI i0 t0 l0 l1 l2 pl ql ex et ec es 3 ea eb eg eh = 0 := by unfold effI appI; rw [if_pos hN, if_neg (by rw [e0]; decide)]
      unfold appE at h1
      rw [if_neg (by rw [e0]; decide)] at h1
      injection h1 with z1 z2 z3 z4 z5
      subst z1 z2 z3 z4 z5
      exact specApp_0 A n c B m d i0 t0 l0 l1 l2 pl ql ex et ec es 3 ea eb eg eh w hP hQ hl hr hn hm hA hB (Lib.hid q1) hn10 hm8 (Lib.hid hx0)
    | true =>
      have e0 : (effE l0 l1 l2 pl ql ex et ec es 3 ea eb eg eh).2 = true := by rw [effE_3]; exact hok
      have hx1 : effI i0 t0 l0 l1 l2 pl ql ex et ec es 3 ea eb eg eh = 3 := by unfold effI appI; rw [if_pos hN, if_pos e0]
      unfold appE at h1
      rw [if_pos e0, effE_3] at h1
      injection h1 with z1 z2 z3 z4 z5
      subst z1 z2 z3 z4 z5
      exact specApp_3 A n c B m d i0 t0 l0 l1 l2 pl ql ex et ec es ea eb eg eh w hP hQ hl hr hn hm hA hB (Lib.hid q1) hn10 hm8 (Lib.hid hx1) _ _ _ (Lib.hid rfl) (Lib.hid rfl)
  · have hN := nextInB_mk q1 q2
    cases hok : firesB l0 l1 l2 ql et ec 4 ea eb with
    | false =>
      have e0 : (effE l0 l1 l2 pl ql ex et ec es 4 ea eb eg eh).2 = false := by rw [effE_4n hok]
      have hx0 : effI i0 t0 l0 l1 l2 pl ql ex et ec es 4 ea eb eg eh = 0 := by unfold effI appI; rw [if_pos hN, if_neg (by rw [e0]; decide)]
      unfold appE at h1
      rw [if_neg (by rw [e0]; decide)] at h1
      injection h1 with z1 z2 z3 z4 z5
      subst z1 z2 z3 z4 z5
      exact specApp_0 A n c B m d i0 t0 l0 l1 l2 pl ql ex et ec es 4 ea eb eg eh w hP hQ hl hr hn hm hA hB (Lib.hid q1) hn10 hm8 (Lib.hid hx0)
    | true =>
      obtain ⟨hid, hjo⟩ := fires_id hok
      have hjb := (stateB_all q1).2.2.2.1
      have e0 : (effE l0 l1 l2 pl ql ex et ec es 4 ea eb eg eh).2 = true := by rw [effE_4y hok]
      have hx1 : effI i0 t0 l0 l1 l2 pl ql ex et ec es 4 ea eb eg eh = 4 := by unfold effI appI; rw [if_pos hN, if_pos e0]
      unfold appE at h1
      rw [if_pos e0, effE_4y hok, hid] at h1
      injection h1 with z1 z2 z3 z4 z5
      subst z1 z2 z3 z4 z5
      exact specApp_4 A n c B m d i0 t0 l0 l1 l2 pl ql ex et ec es ea eb eg eh w hP hQ hl hr hn hm hA hB (Lib.hid q1) hn10 hm8 (Lib.hid hx1) _ _ (putR pl (jobAtV ql ea).1.k (jobAtV ql ea).1.v).2 (firedR ql ea ex).2 true _ _ (jobAtV ql ea).1.i (jobAtV ql ea).1.d (jobAtV ql ea).1.k (jobAtV ql ea).1.v (jobAtV ql ea).1.f (Lib.hid (by unfold jobAtR; rw [if_pos hjb, ← hjo])) (Lib.hid rfl) (Lib.hid rfl) (Lib.hid rfl) (Lib.hid rfl)
  · have hN := nextInB_mk q1 q2
    cases hok : (grantL l0 l1 l2 ec et ea).2 with
    | false =>
      have e0 : (effE l0 l1 l2 pl ql ex et ec es 5 ea eb eg eh).2 = false := by rw [effE_5]; exact hok
      have hx0 : effI i0 t0 l0 l1 l2 pl ql ex et ec es 5 ea eb eg eh = 0 := by unfold effI appI; rw [if_pos hN, if_neg (by rw [e0]; decide)]
      unfold appE at h1
      rw [if_neg (by rw [e0]; decide)] at h1
      injection h1 with z1 z2 z3 z4 z5
      subst z1 z2 z3 z4 z5
      exact specApp_0 A n c B m d i0 t0 l0 l1 l2 pl ql ex et ec es 5 ea eb eg eh w hP hQ hl hr hn hm hA hB (Lib.hid q1) hn10 hm8 (Lib.hid hx0)
    | true =>
      have e0 : (effE l0 l1 l2 pl ql ex et ec es 5 ea eb eg eh).2 = true := by rw [effE_5]; exact hok
      have hx1 : effI i0 t0 l0 l1 l2 pl ql ex et ec es 5 ea eb eg eh = 5 := by unfold effI appI; rw [if_pos hN, if_pos e0]
      unfold appE at h1
      rw [if_pos e0, effE_5] at h1
      injection h1 with z1 z2 z3 z4 z5
      subst z1 z2 z3 z4 z5
      exact specApp_5 A n c B m d i0 t0 l0 l1 l2 pl ql ex et ec es ea eb eg eh w hP hQ hl hr hn hm hA hB (Lib.hid q1) hn10 hm8 (Lib.hid hx1) _ _ _ _ (Lib.hid rfl)
end Go.Proofs.YtokklkmibjpjnaaGreat
