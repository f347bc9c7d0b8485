/-
  Walks of the program's functions, printed by program: what each returns.
  Conditions stand in each theorem.
-/
import Derived.Test.YthkgnhcknkjgdaaDoorKf
import Derived.Test.YthkgnhcknkjgdaaDoorK2
import Derived.WalkArith
import Derived.Laws.Closers25b
import Derived.Test.YthkgnhcknkjgdaaDoorS1
import Derived.Test.YthkgnhcknkjgdaaDoorS2
import Derived.Test.YthkgnhcknkjgdaaDoorS3
import Derived.Test.YthkgnhcknkjgdaaDoorS7
import Derived.Test.YthkgnhcknkjgdaaDoorS8
import Derived.Test.YthkgnhcknkjgdaaDoorS9
import Derived.Test.YthkgnhcknkjgdaaDoorK7
import Derived.Test.YthkgnhcknkjgdaaDoorK8
import Derived.Test.YthkgnhcknkjgdaaDoorK9
import Derived.Test.YthkgnhcknkjgdaaDoorKA
import Derived.Test.YthkgnhcknkjgdaaDoorWa
import Derived.Test.YthkgnhcknkjgdaaDoorWd
import Derived.Test.YthkgnhcknkjgdaaDoorWk
import Derived.Test.YthkgnhcknkjgdaaDoorWm
import Derived.Test.YthkgnhcknkjgdaaDoorWn
import Derived.Test.YthkgnhcknkjgdaaDoorWo
import Derived.Test.YthkgnhcknkjgdaaDoorWl
import Derived.Test.YthkgnhcknkjgdaaDoorWq
import Derived.Test.YthkgnhcknkjgdaaDoorWr
import Derived.Test.YthkgnhcknkjgdaaDoorWw
import Derived.Test.YthkgnhcknkjgdaaDoorWx
import Derived.Test.YthkgnhcknkjgdaaDoorXd
import Derived.Test.YthkgnhcknkjgdaaDoorK3
import Derived.Test.YthkgnhcknkjgdaaDoorK4
set_option linter.unusedSimpArgs false
set_option linter.unusedVariables false
namespace Go.Proofs.YthkgnhcknkjgdaaDoor
open Go.RowKit Go
open Go.K (setd setn ev nth over cl eI eP eT setM setF)
attribute [local irreducible] K.blk K.row

set_option maxRecDepth 100000 in
set_option maxHeartbeats 1000000 in
theorem c77 {m : Mod} {A B C : Option Addr} {c d e : Nat} {w : World} (hH : K.Rd w A 1 K.eI m.hs) (hP : K.Rd w B 5 eN m.ps) (hS : K.Rd w C 4 eS m.ss) (g : Good m) :
    Calls Tryd.prog 77 [.agg #[.int .i64 m.W, .int .i64 m.D, .slice A m.hs.length c, .slice B m.ps.length d, .slice C m.ss.length e]].toArray w (K.RetSE 3 1 K.eI ((roundsS m).1.take m.ps.length) (roundsS m).2.1 w) := by
  have hgn := g.n
  refine K.enter (args := [.agg #[.int .i64 m.W, .int .i64 m.D, .slice A m.hs.length c, .slice B m.ps.length d, .slice C m.ss.length e]]) Tryd.func77 rfl (n := 24) rfl ?_
  simp only [List.replicate, List.cons_append, List.nil_append]
  refine K.seq ?_
  refine K.region_lit ?_
  refine K.seq_new (K.box) rfl ?_
  intro b1
  refine zN ?_
  refine K.seq_pure (K.assign) rfl ?_
  refine zn ?_
  refine K.seq_pure (K.assign) rfl ?_
  refine zn ?_
  refine K.seq_nil ?_
  refine K.norm_then ?_
  refine K.seq ?_
  refine K.region_lit ?_
  refine K.seq_sil (K.loadA_own ag_26 rfl (K.m0) rfl) rfl ?_
  refine zN ?_
  refine K.seq_loud (K.call_f cal_43 (fun F w hF hw => c43 (hP.pass hw) (by omega))) rfl ?_
  rintro ⟨Q0, q0⟩ hq0
  refine zN ?_
  refine K.seq_pure (K.assign) rfl ?_
  refine zn ?_
  refine K.seq_nil ?_
  refine K.norm_then ?_
  refine K.seq ?_
  refine K.seq ?_
  refine K.region_lit ?_
  refine K.seq_pure (K.assign) rfl ?_
  refine zn ?_
  refine K.seq_nil ?_
  refine K.norm_then ?_
  refine K.block ?_
  refine K.loopW [4, 5] [2, 3, 6, 9, 10, 11, 12, 13, 14, 15, 16, 17, 18, 19, 20, 21, 22, 23, 24] (fun vi L => ∃ (l6 : List Int) (r : Nat) (Q1 : Option Addr) (q1 : Nat), vi = [.slice Q1 (l6.take m.ps.length).length q1, .int .i64 ((r : Int) + 1)] ∧ L = [K.row (.slice Q1 (l6.take m.ps.length).length q1) 3 1 (l6.take m.ps.length).length ((l6.take m.ps.length).flatMap K.eI), K.blk b1 26 [.int .i64 m.W, .int .i64 m.D, .slice A m.hs.length c, .slice B m.ps.length d, .slice C m.ss.length e]] ∧ ((l6.take m.ps.length).length = 0 ∨ ∃ b, Q1 = some ⟨b, 0, none⟩) ∧ l6.length = 6 ∧ LB l6 ∧ (r : Int) ≤ l6.sum ∧ rndS m (1801 - r) l6 (r : Int) = roundsS m ∧ LM m l6) (fun vi => 1802 - (intOf (K.nth vi 1)).toNat) ?_ ?_
  · exact ⟨own6 m, 0, Q0, q0, by rw [own_take hgn]; rfl, by rw [own_take hgn]; rfl, by rw [own_take hgn]; exact hq0, own6_len, own6_lb g, (lb_sum (own6_lb g) own6_len).1, rfl, lm_own g⟩
  intro vi vr L hJ
  obtain ⟨l6, r, Q1, q1, rfl, rfl, hq1, h6, hlb, hrs, hrd, hlm⟩ := hJ
  try dsimp only [setd, setn, ev, nth, over, cl, eI, eP, eT, eN, eS, setM, setF, List.map, List.append, List.drop, List.take]
  refine K.seq ?_
  refine K.cond_true rfl ?_
  refine K.skip ?_
  refine K.norm_then ?_
  refine K.seq ?_
  refine K.block ?_
  refine K.seq ?_
  have h18 := sum_lt hlb h6 hrs
  have hfu : 1801 - r = (1800 - r) + 1 := by omega
  rw [hfu] at hrd
  have htl := tk_len hgn h6
  have hag : Agree m (l6.take m.ps.length) l6 := fun i hi => agree_take h6 hgn i hi
  have htr := tooR_eq hgn hag
  have hrl := @roundR_len m (l6.take m.ps.length) m.ps.length
  refine K.region_lit ?_
  refine K.seq_sil (K.loadA_own ag_26 rfl (K.m1) rfl) rfl ?_
  refine zN ?_
  refine K.seq_pure (K.move) rfl ?_
  refine zn ?_
  refine K.seq_loud (K.call_f cal_44 (fun F w hF hw => (by have hh := (K.Rd.own (e := K.eI) (xs := (l6.take m.ps.length)) hw (hF _ (K.m0)) hq1 (fun _ => rfl) (by decide)); exact c44 (l := (l6.take m.ps.length)) (hH.pass hw) (hP.pass hw) (hS.pass hw) hh htl (lb_take hlb) g (lm_take hgn h6 hlm)))) rfl ?_
  rintro ⟨Q2, q2⟩ hq2
  refine zN ?_
  refine K.seq_pure (K.assign) rfl ?_
  refine zn ?_
  refine K.seq_nil ?_
  refine K.norm_then ?_
  refine K.seq ?_
  refine K.seq ?_
  refine K.region_lit ?_
  refine K.seq_sil (K.loadA_own ag_26 rfl (K.m2) rfl) rfl ?_
  refine zN ?_
  refine K.seq_pure (K.move) rfl ?_
  refine zn ?_
  refine K.seq_call (K.call_g cal_78 (fun F w hF hw => (by have hh := (K.Rd.own (e := K.eI) (xs := (roundR m (l6.take m.ps.length) m.ps.length)) hw (hF _ (K.m0)) hq2 (fun _ => rfl) (by decide)); exact c78 (l := (roundR m (l6.take m.ps.length) m.ps.length)) (hP.pass hw) hh hrl hgn))) rfl ?_
  refine zN ?_
  refine K.seq_pure (K.geq rfl rfl) rfl ?_
  refine zn ?_
  refine K.seq_nil ?_
  refine K.norm_then ?_
  refine K.cond rfl (fun ht17 => ?_) (fun ht17 => ?_)
  · try replace ht17 := of_decide_eq_true ht17
    obtain ⟨i, hti⟩ : ∃ i, tooF m (nextS m l6) = some i := by
      cases e : tooF m (nextS m l6) with
      | some i => exact ⟨i, rfl⟩
      | none => rw [htr, e] at ht17; exact absurd ht17 (by decide)
    have hrn := rnd_some (f := 1800 - r) (r := (r : Int)) hti
    rw [hrn] at hrd
    refine K.seq ?_
    refine K.region_lit ?_
    refine K.seq_pure (K.move) rfl ?_
    refine zn ?_
    refine K.seq_pure (K.move) rfl ?_
    refine zn ?_
    refine K.seq_pure (K.assign) rfl ?_
    refine zn ?_
    refine K.seq_pure (K.assign) rfl ?_
    refine zn ?_
    refine K.seq_nil ?_
    refine K.norm_then ?_
    refine K.ret ?_
    refine K.ret_then ?_
    refine K.ret_block ?_
    refine K.ret_then ?_
    refine K.ret_then ?_
    refine K.ret_block ?_
    refine K.ret_then ?_
    refine K.end_ret (fun w _ => K.res_tmp2 rfl w) ?_
    rw [← hrd]
    exact K.rets_se K.m1 rfl rfl rfl rfl
  try replace ht17 := of_decide_eq_false ht17
  have htn : tooF m (nextS m l6) = none := by
    cases e : tooF m (nextS m l6) with
    | none => rfl
    | some i => rw [htr, e] at ht17; exact absurd (show (0 : Int) ≤ (i : Int) by omega) ht17
  have hrt := round_take hgn h6 htn
  refine K.skip ?_
  refine K.norm_then ?_
  refine K.seq ?_
  refine K.seq ?_
  refine K.region_lit ?_
  refine K.seq_pure (K.move) rfl ?_
  refine zn ?_
  refine K.seq_pure (K.move) rfl ?_
  refine zn ?_
  refine K.seq_call (K.call_g cal_20 (fun F w hF hw => (by have ha := (K.Rd.own (e := K.eI) (xs := (l6.take m.ps.length)) hw (hF _ (K.m1)) hq1 (fun _ => rfl) (by decide)); have hb := (K.Rd.own (e := K.eI) (xs := (roundR m (l6.take m.ps.length) m.ps.length)) hw (hF _ (K.m0)) hq2 (fun _ => rfl) (by decide)); exact c20 (xs := (l6.take m.ps.length)) (ys := (roundR m (l6.take m.ps.length) m.ps.length)) ha hb (by omega) (by omega)))) rfl ?_
  refine zN ?_
  refine K.seq_nil ?_
  refine K.norm_then ?_
  refine K.cond rfl (fun ht22 => ?_) (fun ht22 => ?_)
  · try replace ht22 := of_decide_eq_true ht22
    have hse : nextS m l6 = l6 := (take_same hgn h6).1 (ht22.trans hrt)
    have hrn := rnd_end (f := 1800 - r) (r := (r : Int)) htn hse
    rw [hrn] at hrd
    refine K.seq ?_
    refine K.region_lit ?_
    refine K.seq_pure (K.move) rfl ?_
    refine zn ?_
    refine K.seq_pure (K.assign) rfl ?_
    refine zn ?_
    refine K.seq_pure (K.assign) rfl ?_
    refine zn ?_
    refine K.seq_nil ?_
    refine K.norm_then ?_
    refine K.ret ?_
    refine K.ret_then ?_
    refine K.ret_block ?_
    refine K.ret_then ?_
    refine K.ret_then ?_
    refine K.ret_block ?_
    refine K.ret_then ?_
    refine K.end_ret (fun w _ => K.res_tmp2 rfl w) ?_
    rw [← hrd]
    exact K.rets_se K.m1 rfl rfl rfl rfl
  try replace ht22 := of_decide_eq_false ht22
  have hne : ¬ nextS m l6 = l6 := fun h => ht22 (by rw [hrt, h])
  have hrn := rnd_next (f := 1800 - r) (r := (r : Int)) htn hne
  rw [hrn] at hrd
  have hns := next_sum h6 hne
  refine K.skip ?_
  refine K.norm_then ?_
  refine K.region_lit ?_
  refine K.seq_pure (K.move) rfl ?_
  refine zn ?_
  refine K.seq_pure (K.assign) rfl ?_
  refine zn ?_
  refine K.seq_nil ?_
  refine K.norm_block ?_
  refine K.norm_then ?_
  refine K.region_lit ?_
  refine K.seq_pure (K.move) rfl ?_
  refine zn ?_
  refine K.seq_pure (K.add_i64 rfl rfl (by omega)) rfl ?_
  refine zn ?_
  refine K.seq_pure (K.assign) rfl ?_
  refine zn ?_
  refine K.seq_nil ?_
  have e1 : (nextS m l6).take m.ps.length = (roundR m (l6.take m.ps.length) m.ps.length) := hrt.symm
  exact K.round_endW (L'' := [K.row (.slice Q2 (roundR m (l6.take m.ps.length) m.ps.length).length q2) 3 1 (roundR m (l6.take m.ps.length) m.ps.length).length ((roundR m (l6.take m.ps.length) m.ps.length).flatMap K.eI), K.blk b1 26 [.int .i64 m.W, .int .i64 m.D, .slice A m.hs.length c, .slice B m.ps.length d, .slice C m.ss.length e]]) [.slice Q2 (roundR m (l6.take m.ps.length) m.ps.length).length q2, .int .i64 ((r : Int) + 1 + 1)] ⟨nextS m l6, r + 1, Q2, q2, by rw [e1]; rfl, by rw [e1], by rw [e1]; exact hq2, nx_len, next_lb g hlb htn, by omega, by rw [show 1801 - (r + 1) = 1800 - r by omega]; exact hrd, lm_next htn⟩ (by simp [K.nth, intOf]; omega) (List.Sublist.cons_cons _ (.cons _ (List.Sublist.refl _))) (by kernel_rfl)

set_option maxRecDepth 100000 in
theorem c27 {m : Mod} {A B C : Option Addr} {c d e : Nat} {w : World} (hH : K.Rd w A 1 K.eI m.hs) (hP : K.Rd w B 5 eN m.ps) (hS : K.Rd w C 4 eS m.ss) (hn : m.hs.length ≤ 4611686018427387904) (hm : m.ps.length ≤ 4611686018427387904) (hk : m.ss.length ≤ 4611686018427387904) :
    Calls Tryd.prog 27 [.agg #[.int .i64 m.W, .int .i64 m.D, .slice A m.hs.length c, .slice B m.ps.length d, .slice C m.ss.length e]].toArray w (K.RetSE 3 1 K.eI (lngL m) (lngE m) w) := by
  refine K.enter (args := [.agg #[.int .i64 m.W, .int .i64 m.D, .slice A m.hs.length c, .slice B m.ps.length d, .slice C m.ss.length e]]) Tryd.func27 rfl (n := 25) rfl ?_
  simp only [List.replicate, List.cons_append, List.nil_append]
  refine K.seq ?_
  refine K.region_lit ?_
  refine K.seq_new (K.box) rfl ?_
  intro b1
  refine zN ?_
  refine K.seq_pure (K.assign) rfl ?_
  refine zn ?_
  refine K.seq_pure (K.assign) rfl ?_
  refine zn ?_
  refine K.seq_nil ?_
  refine K.norm_then ?_
  refine K.seq ?_
  refine K.region_lit ?_
  refine K.seq_sil (K.loadA_own ag_26 rfl (K.m0) rfl) rfl ?_
  refine zN ?_
  refine K.seq_call (K.call_g cal_17 (fun F w hF hw => c17 (hH.pass hw) (hP.pass hw) (hS.pass hw) hn hm hk)) rfl ?_
  refine zN ?_
  refine K.seq_pure (K.move) rfl ?_
  refine zn ?_
  refine K.seq_pure (K.extract rfl rfl) rfl ?_
  refine zn ?_
  refine K.seq_pure (K.extract rfl rfl) rfl ?_
  refine zn ?_
  refine K.seq_pure (K.extract rfl rfl) rfl ?_
  refine zn ?_
  refine K.seq_pure (K.assign) rfl ?_
  refine zn ?_
  refine K.seq_pure (K.assign) rfl ?_
  refine zn ?_
  refine K.seq_pure (K.assign) rfl ?_
  refine zn ?_
  refine K.seq_nil ?_
  refine K.norm_then ?_
  refine K.seq ?_
  refine K.seq ?_
  refine K.region_lit ?_
  refine K.seq_pure (K.move) rfl ?_
  refine zn ?_
  refine K.seq_pure (K.neq rfl rfl) rfl ?_
  refine zn ?_
  refine K.seq_nil ?_
  refine K.norm_then ?_
  refine K.cond rfl (fun ht16 => ?_) (fun ht16 => ?_)
  · try replace ht16 := of_decide_eq_true ht16
    refine K.seq ?_
    refine K.region_lit ?_
    refine K.seq_pure (K.move) rfl ?_
    refine zn ?_
    refine K.seq_pure (K.assign) rfl ?_
    refine zn ?_
    refine K.seq_pure (K.assign) rfl ?_
    refine zn ?_
    refine K.seq_nil ?_
    refine K.norm_then ?_
    refine K.ret ?_
    refine K.ret_then ?_
    refine K.end_ret (fun w _ => K.res_tmp2 rfl w) ?_
    have he : lngE m = (chk m).2.2 := by unfold lngE; rw [if_pos ht16]
    exact K.rets_se0 (by unfold lngL; rw [if_neg (by omega)]) he.symm rfl
  try replace ht16 := of_decide_eq_false ht16
  refine K.skip ?_
  refine K.norm_then ?_
  refine K.seq ?_
  refine K.region_lit ?_
  refine K.seq_sil (K.loadA_own ag_26 rfl (K.m0) rfl) rfl ?_
  refine zN ?_
  refine K.seq_loud (K.call_f cal_77 (fun F w hF hw => c77 (hH.pass hw) (hP.pass hw) (hS.pass hw) (chk_good (Decidable.not_not.1 ht16)))) rfl ?_
  rintro ⟨Q1, q1⟩ hq
  refine zN ?_
  refine K.seq_pure (K.move) rfl ?_
  refine zn ?_
  refine K.seq_pure (K.extract rfl rfl) rfl ?_
  refine zn ?_
  refine K.seq_pure (K.extract rfl rfl) rfl ?_
  refine zn ?_
  refine K.seq_pure (K.assign) rfl ?_
  refine zn ?_
  refine K.seq_pure (K.assign) rfl ?_
  refine zn ?_
  refine K.seq_nil ?_
  refine K.norm_then ?_
  refine K.seq ?_
  refine K.seq ?_
  have hsg := @rounds_sign m
  refine K.region_lit ?_
  refine K.seq_pure (K.move) rfl ?_
  refine zn ?_
  refine K.seq_pure (K.gtr rfl rfl) rfl ?_
  refine zn ?_
  refine K.seq_nil ?_
  refine K.norm_then ?_
  refine K.cond rfl (fun ht24 => ?_) (fun ht24 => ?_)
  · try replace ht24 := of_decide_eq_true ht24
    refine K.seq ?_
    refine K.region_lit ?_
    refine K.seq_pure (K.assign) rfl ?_
    refine zn ?_
    refine K.seq_pure (K.assign) rfl ?_
    refine zn ?_
    refine K.seq_nil ?_
    refine K.norm_then ?_
    refine K.ret ?_
    refine K.ret_then ?_
    refine K.end_ret (fun w _ => K.res_tmp2 rfl w) ?_
    have he : lngE m = 9 := by unfold lngE; rw [if_neg ht16, if_pos (by omega)]
    exact K.rets_se0 (by unfold lngL; rw [if_neg (by omega)]) he.symm rfl
  try replace ht24 := of_decide_eq_false ht24
  refine K.skip ?_
  refine K.norm_then ?_
  refine K.seq ?_
  refine K.region_lit ?_
  refine K.seq_pure (K.move) rfl ?_
  refine zn ?_
  refine K.seq_pure (K.assign) rfl ?_
  refine zn ?_
  refine K.seq_pure (K.assign) rfl ?_
  refine zn ?_
  refine K.seq_nil ?_
  refine K.norm_then ?_
  refine K.ret ?_
  refine K.end_ret (fun w _ => K.res_tmp2 rfl w) ?_
  have he : lngE m = 0 := by unfold lngE; rw [if_neg ht16, if_neg (by omega)]
  exact K.rets_se K.m0 (by unfold lngL; rw [if_pos he]) (by unfold lngL; rw [if_pos he]) he.symm rfl

end Go.Proofs.YthkgnhcknkjgdaaDoor
