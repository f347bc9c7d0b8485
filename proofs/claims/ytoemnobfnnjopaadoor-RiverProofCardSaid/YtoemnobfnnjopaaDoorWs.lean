/-
  Walks of the program's functions, printed by program: what each returns.
  Conditions stand in each theorem.
-/
import Derived.WalkArith
import Derived.Laws.Closers25b
import Derived.Test.YtoemnobfnnjopaaDoorSY
import Derived.Test.YtoemnobfnnjopaaDoorWl
import Derived.Test.YtoemnobfnnjopaaDoorWq
set_option linter.unusedSimpArgs false
set_option linter.unusedVariables false
namespace Go.Proofs.YtoemnobfnnjopaaDoor
open Go.RowKit Go
open Go.K (setd setn ev nth over cl eI eP eT setM setF)
attribute [local irreducible] K.blk K.row
theorem mk1_105 : K.mk1 Tryd.prog 105 = some (4, 1, .bool false) := by kernel_rfl
@[reducible] def eO (b : Bool) : List Value := [.bool b]
theorem eO_at {xs : List Bool} {k : Nat} (h : k < xs.length) : (List.drop 0 (xs.flatMap eO))[0 + k * 1]? = some (.bool (xs.getD k default)) := by
  rw [List.drop_zero, show 0 + k * 1 = k by omega]
  induction xs generalizing k with
  | nil => simp at h
  | cons x xs ih =>
    cases k with
    | zero => rfl
    | succ k => simpa [List.flatMap_cons] using ih (k := k) (by simpa using h)
theorem eO_len {xs : List Bool} : (xs.flatMap eO).length = xs.length := by
  have := K.flat_len (e := eO) (size := 1) (fun _ => rfl) xs
  rw [this]; omega
theorem rep_bool {n : Nat} {z : Bool} : List.replicate n (Value.bool z) = (List.replicate n z).flatMap eO := by
  induction n with
  | zero => rfl
  | succ n ih => rw [List.replicate_succ, List.replicate_succ, List.flatMap_cons, ih]; rfl

set_option maxRecDepth 100000 in
set_option maxHeartbeats 2000000 in
theorem c40 {r : List RvT} {A : Option Addr} {c : Nat} {Y : Option Addr} {cy : Nat} {ys : List Int} {w : World} (hR : K.Rd w A 4 eR r) (hY : K.Rd w Y 1 eH ys) (hyb : ∀ x ∈ ys, 0 ≤ x ∧ x ≤ 65535) (hyl : ys.length ≤ 140737488351232) (g : Good r) :
    Calls Tryd.prog 40 [.slice A r.length c, .slice Y ys.length cy].toArray w (K.RetS 3 1 K.eI (anyS r (turnS ys)) w) := by
  have hgn := g.n
  have htb : ∀ i, 0 ≤ (turnS ys) i ∧ (turnS ys) i ≤ 65535 := fun i => turn_bd hyb
  have ht0 : ∀ i, 0 ≤ (turnS ys) i := fun i => (htb i).1
  refine K.enter (args := [.slice A r.length c, .slice Y ys.length cy]) Tryd.func40 rfl (n := 99) rfl ?_
  simp only [List.replicate, List.cons_append, List.nil_append]
  refine sr ?_
  refine qa ?_
  refine sn ?_
  refine sr ?_
  refine qm ?_
  refine qp (K.len_sl sl_22 rfl) ?_
  refine K.seq_new (K.mkSlice (n := r.length) mk1_26 rfl rfl (by omega) (by omega)) rfl ?_
  intro b14
  refine zN ?_
  refine qa ?_
  refine sn ?_
  refine sr ?_
  refine qm ?_
  refine qp (K.len_sl sl_22 rfl) ?_
  refine K.seq_new (K.mkSlice (n := r.length) mk1_105 rfl rfl (by omega) (by omega)) rfl ?_
  intro b17
  refine zN ?_
  rw [rep_bool, K.rep_int, ← hsD_0 (r := r) (t := (turnS ys))]
  refine zN ?_
  refine qa ?_
  refine sn ?_
  refine K.seq ?_
  refine sr ?_
  refine qa ?_
  refine sn ?_
  refine K.block ?_
  refine K.loopW [7] [8, 9, 10, 11, 18, 19, 20, 21, 22, 23, 24, 25, 26, 27, 28, 29, 30, 31, 32, 33, 34, 35, 36, 37, 38, 39, 40, 41, 42, 43, 44, 45, 46, 47, 48, 49, 50, 51, 52, 53, 54, 55, 56, 57, 58, 59, 60, 61, 62, 63, 64, 65, 66, 67, 68, 69, 70, 71, 72, 73, 74, 75, 76, 77, 78, 79, 80, 81, 82, 83, 84, 85, 86, 87, 88, 89, 90, 91, 92, 93, 94, 95, 96, 97, 98, 99] (fun vi L => ∃ (m : Nat) (D : List Bool), vi = [.int .i64 (m : Int)] ∧ L = [K.blk b17 4 (D.flatMap eO), K.blk b14 3 ((hsD r (turnS ys) D).flatMap K.eI)] ∧ m ≤ r.length ∧ D.length = r.length ∧ ∀ j, j < r.length → dep r j < m → D.getD j default = true) (fun vi => r.length - (intOf (K.nth vi 0)).toNat) ?_ ?_
  · exact ⟨0, _, rfl, rfl, Nat.zero_le _, List.length_replicate, fun j _ hj => absurd hj (Nat.not_lt_zero _)⟩
  intro vi vr L hJ
  obtain ⟨m, D, rfl, rfl, hmn, hdl, hD⟩ := hJ
  try dsimp only [setd, setn, ev, nth, over, cl, eI, eP, eT, eR, setM, setF, List.map, List.append, List.drop, List.take]
  refine K.seq ?_
  refine sr ?_
  iterate 2 refine qm ?_
  refine qp (K.len_sl sl_22 rfl) ?_
  refine qp (K.lss rfl rfl) ?_
  refine sn ?_
  refine K.cond rfl (fun ht21 => ?_) (fun ht21 => ?_)
  · try replace ht21 := of_decide_eq_true ht21
    refine K.skip ?_
    refine K.norm_then ?_
    refine K.seq ?_
    refine K.block ?_
    refine sr ?_
    refine qa ?_
    refine sn ?_
    refine K.block ?_
    refine K.loopW [8] [9, 10, 11, 24, 25, 26, 27, 28, 29, 30, 31, 32, 33, 34, 35, 36, 37, 38, 39, 40, 41, 42, 43, 44, 45, 46, 47, 48, 49, 50, 51, 52, 53, 54, 55, 56, 57, 58, 59, 60, 61, 62, 63, 64, 65, 66, 67, 68, 69, 70, 71, 72, 73, 74, 75, 76, 77, 78, 79, 80, 81, 82, 83, 84, 85, 86, 87, 88, 89, 90, 91, 92, 93, 94, 95, 96, 97, 98, 99] (fun vi L => ∃ (i : Nat) (D : List Bool), vi = [.int .i64 (i : Int)] ∧ L = [K.blk b17 4 (D.flatMap eO), K.blk b14 3 ((hsD r (turnS ys) D).flatMap K.eI)] ∧ i ≤ r.length ∧ D.length = r.length ∧ (∀ j, j < r.length → dep r j < m → D.getD j default = true) ∧ ∀ j, j < i → dep r j < m + 1 → D.getD j default = true) (fun vi => r.length - (intOf (K.nth vi 0)).toNat) ?_ ?_
    · exact ⟨0, D, rfl, rfl, Nat.zero_le _, hdl, hD, fun j hj => absurd hj (Nat.not_lt_zero _)⟩
    intro vi vr L hJ
    clear hD hdl
    obtain ⟨i, D, rfl, rfl, hin, hdl, hD, hI⟩ := hJ
    try dsimp only [setd, setn, ev, nth, over, cl, eI, eP, eT, eR, setM, setF, List.map, List.append, List.drop, List.take]
    refine K.seq ?_
    refine sr ?_
    iterate 2 refine qm ?_
    refine qp (K.len_sl sl_22 rfl) ?_
    refine qp (K.lss rfl rfl) ?_
    refine sn ?_
    refine K.cond rfl (fun ht27 => ?_) (fun ht27 => ?_)
    · try replace ht27 := of_decide_eq_true ht27
      have hi : i < r.length := by omega
      have hpi := g.p i hi
      have hdh := hsD_len (r := r) (t := (turnS ys)) (D := D)
      refine K.skip ?_
      refine K.norm_then ?_
      refine K.seq ?_
      refine K.block ?_
      refine K.seq ?_
      refine sr ?_
      iterate 2 refine qm ?_
      refine K.seq_pure (K.Pure.eq (K.indexAddr_sl sl_105 rfl rfl (by omega) (by omega)) (show _ = Value.pointer (some ⟨b17, 0 + i * 1, none⟩) from by rw [K.add_lit, Int.toNat_natCast])) rfl ?_
      refine zN ?_
      refine zN ?_
      refine K.seq_sil (K.load_at one_4 rfl (K.PtrL.own' ((K.m0))) (eO_at (by omega))) rfl ?_
      refine zN ?_
      refine qm ?_
      refine K.split 34 rfl (fun hg34 => ?_) (fun hg34 => ?_)
      · try replace hg34 := of_decide_eq_true hg34
        iterate 17 refine qs ?_
        refine qp (K.pick_t rfl) ?_
        refine sn ?_
        refine K.cond_true rfl ?_
        refine K.exit ?_
        refine K.exit_then ?_
        refine K.exit_here ?_
        refine K.norm_then ?_
        refine K.region_lit ?_
        refine qm ?_
        refine qp (K.add_i64 rfl rfl (by omega)) ?_
        refine qa ?_
        refine K.seq_nil ?_
        have hDi : dep r i < m + 1 → D.getD i default = true := fun _ => hg34
        exact K.round_endW (L'' := [K.blk b17 4 (D.flatMap eO), K.blk b14 3 ((hsD r (turnS ys) D).flatMap K.eI)]) [.int .i64 ((i : Int) + 1)] ⟨i + 1, D, rfl, rfl, by omega, hdl, hD, K.lt_succ_case hI hDi⟩ (by simp [K.nth, intOf]; omega) (List.Sublist.refl _) (by kernel_rfl)
      try replace hg34 := of_decide_eq_false hg34
      iterate 2 refine qm ?_
      refine K.seq_ix (M := []) _ hR.sl sl_22 rfl rfl rfl (by omega) rfl ?_
      intro p37 hp37
      refine zN ?_
      refine qp (K.fieldAddr fo_44_1 rfl) ?_
      refine K.seq_sil (K.load1 one_3 rfl ((K.PtrL.fld hp37 (k := 1)).any)) rfl ?_
      refine zN ?_
      refine qp (K.neq rfl rfl) ?_
      refine qm ?_
      refine K.split 41 rfl (fun hg41 => ?_) (fun hg41 => ?_)
      · try replace hg41 := of_decide_eq_true hg41
        have hdn := dn_lt g hi hg41
        have hdv : (((r.getD i default).dn.toNat : Nat) : Int) = (r.getD i default).dn := by omega
        iterate 3 refine qm ?_
        refine K.seq_ix (M := []) _ hR.sl sl_22 rfl rfl rfl (by omega) rfl ?_
        intro p45 hp45
        refine zN ?_
        refine qp (K.fieldAddr fo_44_1 rfl) ?_
        refine K.seq_sil (K.load1 one_3 rfl ((K.PtrL.fld hp45 (k := 1)).any)) rfl ?_
        refine zN ?_
        refine K.seq_pure (K.Pure.eq (K.indexAddr_sl sl_105 rfl rfl (by omega) (by omega)) (show _ = Value.pointer (some ⟨b17, 0 + (r.getD i default).dn.toNat * 1, none⟩) from by rw [K.add_lit])) rfl ?_
        refine zN ?_
        refine zN ?_
        refine K.seq_sil (K.load_at one_4 rfl (K.PtrL.own' ((K.m0))) (eO_at (by omega))) rfl ?_
        refine zN ?_
        first | refine K.seq_pure (K.not_d rfl) rfl ?_ | refine K.seq_pure (K.not_ rfl) rfl ?_
        refine zN ?_
        refine qp (K.pick_t rfl) ?_
        refine qp (K.pick_f rfl) ?_
        refine sn ?_
        refine K.cond rfl (fun ht52 => ?_) (fun ht52 => ?_)
        · try replace ht52 := of_decide_eq_true ht52
          refine K.exit ?_
          refine K.exit_then ?_
          refine K.exit_here ?_
          refine K.norm_then ?_
          refine K.region_lit ?_
          refine qm ?_
          refine qp (K.add_i64 rfl rfl (by omega)) ?_
          refine qa ?_
          refine K.seq_nil ?_
          have hnd : D.getD (r.getD i default).dn.toNat default = false := by simpa using ht52
          have hDi : dep r i < m + 1 → D.getD i default = true := fun h => by
            have := hD _ hdn (by have := dep_d g hi hg41; omega)
            rw [this] at hnd; cases hnd
          exact K.round_endW (L'' := [K.blk b17 4 (D.flatMap eO), K.blk b14 3 ((hsD r (turnS ys) D).flatMap K.eI)]) [.int .i64 ((i : Int) + 1)] ⟨i + 1, D, rfl, rfl, by omega, hdl, hD, K.lt_succ_case hI hDi⟩ (by simp [K.nth, intOf]; omega) (List.Sublist.refl _) (by kernel_rfl)
        try replace ht52 := of_decide_eq_false ht52
        refine K.skip ?_
        refine K.norm_then ?_
        refine sr ?_
        refine qa ?_
        refine sn ?_
        refine K.seq ?_
        refine sr ?_
        iterate 2 refine qm ?_
        refine K.seq_ix (M := []) _ hR.sl sl_22 rfl rfl rfl (by omega) rfl ?_
        intro p55 hp55
        refine zN ?_
        refine qp (K.fieldAddr fo_44_1 rfl) ?_
        refine K.seq_sil (K.load1 one_3 rfl ((K.PtrL.fld hp55 (k := 1)).any)) rfl ?_
        refine zN ?_
        refine qp (K.neq rfl rfl) ?_
        refine sn ?_
        refine K.cond rfl (fun ht58 => ?_) (fun ht58 => ?_)
        · try replace ht58 := of_decide_eq_true ht58
          have hdn2 := dn_lt g hi ht58
          have hdv2 : (((r.getD i default).dn.toNat : Nat) : Int) = (r.getD i default).dn := by omega
          have hDd : D.getD (r.getD i default).dn.toNat default = true := by
            first
              | (simpa using ht52)
              | exact absurd ht58 hg41
          have hhd : (hsD r (turnS ys) D).getD (r.getD i default).dn.toNat default = anyV r (turnS ys) (r.getD i default).dn.toNat := by rw [hsD_at hdn2, if_pos hDd]
          have hab := any_bd g ht0 _ hdn2
          have hlow : (hsD r (turnS ys) D).getD (r.getD i default).dn.toNat default + (r.getD i default).ls = lowV r (turnS ys) i := by rw [hhd]; unfold lowV; rw [if_neg ht58]
          refine K.draw_L [] Tryd_mixed ?_
          refine K.d_pure 0 rfl (K.move) (by kernel_rfl) rfl ?_
          refine zn ?_
          refine K.d_pure 1 rfl (K.move) (by kernel_rfl) rfl ?_
          refine zn ?_
          refine K.d_pure 2 rfl (K.move) (by kernel_rfl) rfl ?_
          refine zn ?_
          refine K.d_ix (M := []) 3 _ rfl hR.sl sl_22 rfl rfl rfl (by omega) (by kernel_rfl) rfl ?_
          intro p62 hp62
          refine zN ?_
          refine K.d_pure 4 rfl (K.fieldAddr fo_44_1 rfl) (by kernel_rfl) rfl ?_
          refine zn ?_
          refine K.d_mem 5 rfl (K.load1 one_3 rfl ((K.PtrL.fld hp62 (k := 1)).any)) (fun _ h => h) (by kernel_rfl) (by kernel_rfl) rfl ?_
          refine zN ?_
          refine K.d_pure 6 rfl (K.Pure.eq (K.indexAddr_sl sl_26 rfl rfl (by omega) (by omega)) (show _ = Value.pointer (some ⟨b14, 0 + (r.getD i default).dn.toNat * 1, none⟩) from by rw [K.add_lit])) (by kernel_rfl) rfl ?_
          refine zN ?_
          refine zN ?_
          refine K.d_mem 7 rfl (K.load_at one_3 rfl (K.PtrL.own' ((K.m1))) (eI_at (by omega))) (fun _ h => h) (by kernel_rfl) (by kernel_rfl) rfl ?_
          refine zN ?_
          refine K.d_pure 8 rfl (K.move) (by kernel_rfl) rfl ?_
          refine zn ?_
          refine K.d_pure 9 rfl (K.move) (by kernel_rfl) rfl ?_
          refine zn ?_
          refine K.d_ix (M := []) 10 _ rfl hR.sl sl_22 rfl rfl rfl (by omega) (by kernel_rfl) rfl ?_
          intro p69 hp69
          refine zN ?_
          refine K.d_pure 11 rfl (K.fieldAddr fo_44_2 rfl) (by kernel_rfl) rfl ?_
          refine zn ?_
          refine K.d_mem 12 rfl (K.load1 one_3 rfl ((K.PtrL.fld hp69 (k := 2)).any)) (fun _ h => h) (by kernel_rfl) (by kernel_rfl) rfl ?_
          refine zN ?_
          refine K.d_pure 13 rfl (K.add_i64 rfl rfl (by omega)) (by kernel_rfl) rfl ?_
          refine zn ?_
          refine K.d_pure 14 rfl (K.assign) (by kernel_rfl) rfl ?_
          refine zn ?_
          refine K.d_done (by kernel_rfl) ?_
          refine K.norm_then ?_
          refine sr ?_
          refine qa ?_
          refine sn ?_
          refine K.seq ?_
          refine sr ?_
          refine qa ?_
          refine sn ?_
          refine K.block ?_
          refine K.loopW [10, 11] [73, 74, 75, 76, 77, 78, 79, 80, 81, 82, 83, 84, 85, 86] (fun vi L => ∃ k : Nat, vi = [.int .i64 (mostF r i k), .int .i64 (k : Int)] ∧ L = [K.blk b17 4 (D.flatMap eO), K.blk b14 3 ((hsD r (turnS ys) D).flatMap K.eI)] ∧ k ≤ r.length) (fun vi => r.length - (intOf (K.nth vi 1)).toNat) ?_ ?_
          · exact ⟨0, rfl, rfl, Nat.zero_le _⟩
          intro vi vr L hJ
          obtain ⟨k, rfl, rfl, hkn⟩ := hJ
          try dsimp only [setd, setn, ev, nth, over, cl, eI, eP, eT, eR, setM, setF, List.map, List.append, List.drop, List.take]
          refine K.seq ?_
          refine sr ?_
          iterate 2 refine qm ?_
          refine qp (K.len_sl sl_22 rfl) ?_
          refine qp (K.lss rfl rfl) ?_
          refine sn ?_
          refine K.cond rfl (fun ht76 => ?_) (fun ht76 => ?_)
          · try replace ht76 := of_decide_eq_true ht76
            have hk : k < r.length := by omega
            have hdb := drp_bd (k := i) g hk
            have hmb := most_bd (i := i) g k (by omega)
            refine K.skip ?_
            refine K.norm_then ?_
            refine K.seq ?_
            refine K.block ?_
            refine K.region_lit ?_
            iterate 4 refine qm ?_
            refine K.seq_call (K.call_g cal_37 (fun F w hF hw => c37 (hR.pass hw) g hk)) rfl ?_
            refine zN ?_
            refine qp (K.max_int rfl rfl) ?_
            refine qp (K.sub_i64 rfl rfl (by omega)) ?_
            refine qp (K.min_int rfl rfl) ?_
            refine qa ?_
            refine K.seq_nil ?_
            refine K.norm_block ?_
            refine K.norm_then ?_
            refine K.region_lit ?_
            refine qm ?_
            refine qp (K.add_i64 rfl rfl (by omega)) ?_
            refine qa ?_
            refine K.seq_nil ?_
            exact K.round_endW (L'' := [K.blk b17 4 (D.flatMap eO), K.blk b14 3 ((hsD r (turnS ys) D).flatMap K.eI)]) [.int .i64 (min (mostF r i k) (9000 - max 0 (drp r k i))), .int .i64 ((k : Int) + 1)] ⟨k + 1, rfl, rfl, by omega⟩ (by simp [K.nth, intOf]; omega) (List.Sublist.refl _) (by kernel_rfl)
          try replace ht76 := of_decide_eq_false ht76
          have e0 : k = r.length := by omega
          subst e0
          have hlb := low_bd g ht0 hi
          have hti := htb i
          have hfit : 0 + i * 1 + 1 ≤ ((hsD r (turnS ys) D).flatMap K.eI).length := by rw [eI_len]; omega
          have hset : K.over ((hsD r (turnS ys) D).flatMap K.eI) (0 + i * 1) (K.cl (.int .i64 (anyV r (turnS ys) i))) = (hsD r (turnS ys) (D.set i true)).flatMap K.eI := by
            rw [← hsD_set hi hdl]
            exact K.set_cut0 (e := K.eI) (size := 1) (x := anyV r (turnS ys) i) (fun _ => rfl) (by omega)
          have hfit2 : 0 + i * 1 + 1 ≤ (D.flatMap eO).length := by rw [eO_len]; omega
          have hset2 : K.over (D.flatMap eO) (0 + i * 1) (K.cl (.bool true)) = (D.set i true).flatMap eO := K.set_cut0 (e := eO) (size := 1) (x := true) (fun _ => rfl) (by omega)
          refine K.exit ?_
          refine K.exit_then ?_
          refine K.exit_then ?_
          refine K.exit_here ?_
          refine K.norm_then ?_
          refine K.region_lit ?_
          iterate 8 refine qm ?_
          refine K.seq_call (K.call_g cal_45 (fun F w hF hw => c45 (hY.pass hw) hyb hyl (by omega))) rfl ?_
          refine zN ?_
          refine qp (K.Pure.eq (K.add_i64 rfl rfl (by omega)) (show _ = Value.int .i64 (lowV r (turnS ys) i + (turnS ys) i) from congrArg (Value.int .i64) (by rw [← hlow]))) ?_
          refine qp (K.Pure.eq (K.min_int rfl rfl) (show _ = Value.int .i64 (anyV r (turnS ys) i) from congrArg (Value.int .i64) (any_eq g hi).symm)) ?_
          refine K.seq_pure (K.Pure.eq (K.indexAddr_sl sl_26 rfl rfl (by omega) (by omega)) (show _ = Value.pointer (some ⟨b14, 0 + i * 1, none⟩) from by rw [K.add_lit, Int.toNat_natCast])) rfl ?_
          refine zN ?_
          refine zN ?_
          refine K.seq_st (K.store_ix (cs := (hsD r (turnS ys) D).flatMap K.eI) sz_3 rfl rfl hfit rfl (K.rpe K.rp1 (congrArg (K.blk b14 3) hset.symm))) rfl ?_
          refine zN ?_
          refine zN ?_
          refine K.seq_pure (K.Pure.eq (K.indexAddr_sl sl_105 rfl rfl (by omega) (by omega)) (show _ = Value.pointer (some ⟨b17, 0 + i * 1, none⟩) from by rw [K.add_lit, Int.toNat_natCast])) rfl ?_
          refine zN ?_
          refine zN ?_
          refine K.seq_st (K.store_ix (cs := D.flatMap eO) sz_4 rfl rfl hfit2 rfl (K.rpe K.rp0 (congrArg (K.blk b17 4) hset2.symm))) rfl ?_
          refine zN ?_
          refine zN ?_
          refine K.seq_nil ?_
          refine K.norm_block ?_
          refine K.norm_then ?_
          refine K.region_lit ?_
          refine qm ?_
          refine qp (K.add_i64 rfl rfl (by omega)) ?_
          refine qa ?_
          refine K.seq_nil ?_
          have hDi : dep r i < m + 1 → (D.set i true).getD i default = true := fun _ => set_get hdl hi
          exact K.round_endW (L'' := [K.blk b17 4 ((D.set i true).flatMap eO), K.blk b14 3 ((hsD r (turnS ys) (D.set i true)).flatMap K.eI)]) [.int .i64 ((i : Int) + 1)] ⟨i + 1, D.set i true, rfl, rfl, by omega, by rw [List.length_set]; exact hdl, fun j hj h => set_old (hD j hj h), K.lt_succ_case (fun j hj h => set_old (hI j hj h)) hDi⟩ (by simp [K.nth, intOf]; omega) (List.Sublist.refl _) (by kernel_rfl)
        try replace ht58 := of_decide_eq_false ht58
        have hlow : (0 : Int) = lowV r (turnS ys) i := by unfold lowV; rw [if_pos (Decidable.not_not.1 ht58)]
        refine K.skip ?_
        refine K.norm_then ?_
        refine sr ?_
        refine qa ?_
        refine sn ?_
        refine K.seq ?_
        refine sr ?_
        refine qa ?_
        refine sn ?_
        refine K.block ?_
        refine K.loopW [10, 11] [73, 74, 75, 76, 77, 78, 79, 80, 81, 82, 83, 84, 85, 86] (fun vi L => ∃ k : Nat, vi = [.int .i64 (mostF r i k), .int .i64 (k : Int)] ∧ L = [K.blk b17 4 (D.flatMap eO), K.blk b14 3 ((hsD r (turnS ys) D).flatMap K.eI)] ∧ k ≤ r.length) (fun vi => r.length - (intOf (K.nth vi 1)).toNat) ?_ ?_
        · exact ⟨0, rfl, rfl, Nat.zero_le _⟩
        intro vi vr L hJ
        obtain ⟨k, rfl, rfl, hkn⟩ := hJ
        try dsimp only [setd, setn, ev, nth, over, cl, eI, eP, eT, eR, setM, setF, List.map, List.append, List.drop, List.take]
        refine K.seq ?_
        refine sr ?_
        iterate 2 refine qm ?_
        refine qp (K.len_sl sl_22 rfl) ?_
        refine qp (K.lss rfl rfl) ?_
        refine sn ?_
        refine K.cond rfl (fun ht76 => ?_) (fun ht76 => ?_)
        · try replace ht76 := of_decide_eq_true ht76
          have hk : k < r.length := by omega
          have hdb := drp_bd (k := i) g hk
          have hmb := most_bd (i := i) g k (by omega)
          refine K.skip ?_
          refine K.norm_then ?_
          refine K.seq ?_
          refine K.block ?_
          refine K.region_lit ?_
          iterate 4 refine qm ?_
          refine K.seq_call (K.call_g cal_37 (fun F w hF hw => c37 (hR.pass hw) g hk)) rfl ?_
          refine zN ?_
          refine qp (K.max_int rfl rfl) ?_
          refine qp (K.sub_i64 rfl rfl (by omega)) ?_
          refine qp (K.min_int rfl rfl) ?_
          refine qa ?_
          refine K.seq_nil ?_
          refine K.norm_block ?_
          refine K.norm_then ?_
          refine K.region_lit ?_
          refine qm ?_
          refine qp (K.add_i64 rfl rfl (by omega)) ?_
          refine qa ?_
          refine K.seq_nil ?_
          exact K.round_endW (L'' := [K.blk b17 4 (D.flatMap eO), K.blk b14 3 ((hsD r (turnS ys) D).flatMap K.eI)]) [.int .i64 (min (mostF r i k) (9000 - max 0 (drp r k i))), .int .i64 ((k : Int) + 1)] ⟨k + 1, rfl, rfl, by omega⟩ (by simp [K.nth, intOf]; omega) (List.Sublist.refl _) (by kernel_rfl)
        try replace ht76 := of_decide_eq_false ht76
        have e0 : k = r.length := by omega
        subst e0
        have hlb := low_bd g ht0 hi
        have hti := htb i
        have hfit : 0 + i * 1 + 1 ≤ ((hsD r (turnS ys) D).flatMap K.eI).length := by rw [eI_len]; omega
        have hset : K.over ((hsD r (turnS ys) D).flatMap K.eI) (0 + i * 1) (K.cl (.int .i64 (anyV r (turnS ys) i))) = (hsD r (turnS ys) (D.set i true)).flatMap K.eI := by
          rw [← hsD_set hi hdl]
          exact K.set_cut0 (e := K.eI) (size := 1) (x := anyV r (turnS ys) i) (fun _ => rfl) (by omega)
        have hfit2 : 0 + i * 1 + 1 ≤ (D.flatMap eO).length := by rw [eO_len]; omega
        have hset2 : K.over (D.flatMap eO) (0 + i * 1) (K.cl (.bool true)) = (D.set i true).flatMap eO := K.set_cut0 (e := eO) (size := 1) (x := true) (fun _ => rfl) (by omega)
        refine K.exit ?_
        refine K.exit_then ?_
        refine K.exit_then ?_
        refine K.exit_here ?_
        refine K.norm_then ?_
        refine K.region_lit ?_
        iterate 8 refine qm ?_
        refine K.seq_call (K.call_g cal_45 (fun F w hF hw => c45 (hY.pass hw) hyb hyl (by omega))) rfl ?_
        refine zN ?_
        refine qp (K.Pure.eq (K.add_i64 rfl rfl (by omega)) (show _ = Value.int .i64 (lowV r (turnS ys) i + (turnS ys) i) from congrArg (Value.int .i64) (by rw [← hlow]))) ?_
        refine qp (K.Pure.eq (K.min_int rfl rfl) (show _ = Value.int .i64 (anyV r (turnS ys) i) from congrArg (Value.int .i64) (any_eq g hi).symm)) ?_
        refine K.seq_pure (K.Pure.eq (K.indexAddr_sl sl_26 rfl rfl (by omega) (by omega)) (show _ = Value.pointer (some ⟨b14, 0 + i * 1, none⟩) from by rw [K.add_lit, Int.toNat_natCast])) rfl ?_
        refine zN ?_
        refine zN ?_
        refine K.seq_st (K.store_ix (cs := (hsD r (turnS ys) D).flatMap K.eI) sz_3 rfl rfl hfit rfl (K.rpe K.rp1 (congrArg (K.blk b14 3) hset.symm))) rfl ?_
        refine zN ?_
        refine zN ?_
        refine K.seq_pure (K.Pure.eq (K.indexAddr_sl sl_105 rfl rfl (by omega) (by omega)) (show _ = Value.pointer (some ⟨b17, 0 + i * 1, none⟩) from by rw [K.add_lit, Int.toNat_natCast])) rfl ?_
        refine zN ?_
        refine zN ?_
        refine K.seq_st (K.store_ix (cs := D.flatMap eO) sz_4 rfl rfl hfit2 rfl (K.rpe K.rp0 (congrArg (K.blk b17 4) hset2.symm))) rfl ?_
        refine zN ?_
        refine zN ?_
        refine K.seq_nil ?_
        refine K.norm_block ?_
        refine K.norm_then ?_
        refine K.region_lit ?_
        refine qm ?_
        refine qp (K.add_i64 rfl rfl (by omega)) ?_
        refine qa ?_
        refine K.seq_nil ?_
        have hDi : dep r i < m + 1 → (D.set i true).getD i default = true := fun _ => set_get hdl hi
        exact K.round_endW (L'' := [K.blk b17 4 ((D.set i true).flatMap eO), K.blk b14 3 ((hsD r (turnS ys) (D.set i true)).flatMap K.eI)]) [.int .i64 ((i : Int) + 1)] ⟨i + 1, D.set i true, rfl, rfl, by omega, by rw [List.length_set]; exact hdl, fun j hj h => set_old (hD j hj h), K.lt_succ_case (fun j hj h => set_old (hI j hj h)) hDi⟩ (by simp [K.nth, intOf]; omega) (List.Sublist.refl _) (by kernel_rfl)
      try replace hg41 := of_decide_eq_false hg41
      iterate 9 refine qs ?_
      refine qp (K.pick_f rfl) ?_
      refine qp (K.pick_f rfl) ?_
      refine sn ?_
      refine K.cond_false rfl ?_
      refine K.skip ?_
      refine K.norm_then ?_
      refine sr ?_
      refine qa ?_
      refine sn ?_
      refine K.seq ?_
      refine sr ?_
      iterate 2 refine qm ?_
      refine K.seq_ix (M := []) _ hR.sl sl_22 rfl rfl rfl (by omega) rfl ?_
      intro p55 hp55
      refine zN ?_
      refine qp (K.fieldAddr fo_44_1 rfl) ?_
      refine K.seq_sil (K.load1 one_3 rfl ((K.PtrL.fld hp55 (k := 1)).any)) rfl ?_
      refine zN ?_
      refine qp (K.neq rfl rfl) ?_
      refine sn ?_
      refine K.cond rfl (fun ht58 => ?_) (fun ht58 => ?_)
      · try replace ht58 := of_decide_eq_true ht58
        have hdn2 := dn_lt g hi ht58
        have hdv2 : (((r.getD i default).dn.toNat : Nat) : Int) = (r.getD i default).dn := by omega
        have hDd : D.getD (r.getD i default).dn.toNat default = true := by
          first
            | (simpa using ht52)
            | exact absurd ht58 hg41
        have hhd : (hsD r (turnS ys) D).getD (r.getD i default).dn.toNat default = anyV r (turnS ys) (r.getD i default).dn.toNat := by rw [hsD_at hdn2, if_pos hDd]
        have hab := any_bd g ht0 _ hdn2
        have hlow : (hsD r (turnS ys) D).getD (r.getD i default).dn.toNat default + (r.getD i default).ls = lowV r (turnS ys) i := by rw [hhd]; unfold lowV; rw [if_neg ht58]
        refine K.draw_L [] Tryd_mixed ?_
        refine K.d_pure 0 rfl (K.move) (by kernel_rfl) rfl ?_
        refine zn ?_
        refine K.d_pure 1 rfl (K.move) (by kernel_rfl) rfl ?_
        refine zn ?_
        refine K.d_pure 2 rfl (K.move) (by kernel_rfl) rfl ?_
        refine zn ?_
        refine K.d_ix (M := []) 3 _ rfl hR.sl sl_22 rfl rfl rfl (by omega) (by kernel_rfl) rfl ?_
        intro p62 hp62
        refine zN ?_
        refine K.d_pure 4 rfl (K.fieldAddr fo_44_1 rfl) (by kernel_rfl) rfl ?_
        refine zn ?_
        refine K.d_mem 5 rfl (K.load1 one_3 rfl ((K.PtrL.fld hp62 (k := 1)).any)) (fun _ h => h) (by kernel_rfl) (by kernel_rfl) rfl ?_
        refine zN ?_
        refine K.d_pure 6 rfl (K.Pure.eq (K.indexAddr_sl sl_26 rfl rfl (by omega) (by omega)) (show _ = Value.pointer (some ⟨b14, 0 + (r.getD i default).dn.toNat * 1, none⟩) from by rw [K.add_lit])) (by kernel_rfl) rfl ?_
        refine zN ?_
        refine zN ?_
        refine K.d_mem 7 rfl (K.load_at one_3 rfl (K.PtrL.own' ((K.m1))) (eI_at (by omega))) (fun _ h => h) (by kernel_rfl) (by kernel_rfl) rfl ?_
        refine zN ?_
        refine K.d_pure 8 rfl (K.move) (by kernel_rfl) rfl ?_
        refine zn ?_
        refine K.d_pure 9 rfl (K.move) (by kernel_rfl) rfl ?_
        refine zn ?_
        refine K.d_ix (M := []) 10 _ rfl hR.sl sl_22 rfl rfl rfl (by omega) (by kernel_rfl) rfl ?_
        intro p69 hp69
        refine zN ?_
        refine K.d_pure 11 rfl (K.fieldAddr fo_44_2 rfl) (by kernel_rfl) rfl ?_
        refine zn ?_
        refine K.d_mem 12 rfl (K.load1 one_3 rfl ((K.PtrL.fld hp69 (k := 2)).any)) (fun _ h => h) (by kernel_rfl) (by kernel_rfl) rfl ?_
        refine zN ?_
        refine K.d_pure 13 rfl (K.add_i64 rfl rfl (by omega)) (by kernel_rfl) rfl ?_
        refine zn ?_
        refine K.d_pure 14 rfl (K.assign) (by kernel_rfl) rfl ?_
        refine zn ?_
        refine K.d_done (by kernel_rfl) ?_
        refine K.norm_then ?_
        refine sr ?_
        refine qa ?_
        refine sn ?_
        refine K.seq ?_
        refine sr ?_
        refine qa ?_
        refine sn ?_
        refine K.block ?_
        refine K.loopW [10, 11] [73, 74, 75, 76, 77, 78, 79, 80, 81, 82, 83, 84, 85, 86] (fun vi L => ∃ k : Nat, vi = [.int .i64 (mostF r i k), .int .i64 (k : Int)] ∧ L = [K.blk b17 4 (D.flatMap eO), K.blk b14 3 ((hsD r (turnS ys) D).flatMap K.eI)] ∧ k ≤ r.length) (fun vi => r.length - (intOf (K.nth vi 1)).toNat) ?_ ?_
        · exact ⟨0, rfl, rfl, Nat.zero_le _⟩
        intro vi vr L hJ
        obtain ⟨k, rfl, rfl, hkn⟩ := hJ
        try dsimp only [setd, setn, ev, nth, over, cl, eI, eP, eT, eR, setM, setF, List.map, List.append, List.drop, List.take]
        refine K.seq ?_
        refine sr ?_
        iterate 2 refine qm ?_
        refine qp (K.len_sl sl_22 rfl) ?_
        refine qp (K.lss rfl rfl) ?_
        refine sn ?_
        refine K.cond rfl (fun ht76 => ?_) (fun ht76 => ?_)
        · try replace ht76 := of_decide_eq_true ht76
          have hk : k < r.length := by omega
          have hdb := drp_bd (k := i) g hk
          have hmb := most_bd (i := i) g k (by omega)
          refine K.skip ?_
          refine K.norm_then ?_
          refine K.seq ?_
          refine K.block ?_
          refine K.region_lit ?_
          iterate 4 refine qm ?_
          refine K.seq_call (K.call_g cal_37 (fun F w hF hw => c37 (hR.pass hw) g hk)) rfl ?_
          refine zN ?_
          refine qp (K.max_int rfl rfl) ?_
          refine qp (K.sub_i64 rfl rfl (by omega)) ?_
          refine qp (K.min_int rfl rfl) ?_
          refine qa ?_
          refine K.seq_nil ?_
          refine K.norm_block ?_
          refine K.norm_then ?_
          refine K.region_lit ?_
          refine qm ?_
          refine qp (K.add_i64 rfl rfl (by omega)) ?_
          refine qa ?_
          refine K.seq_nil ?_
          exact K.round_endW (L'' := [K.blk b17 4 (D.flatMap eO), K.blk b14 3 ((hsD r (turnS ys) D).flatMap K.eI)]) [.int .i64 (min (mostF r i k) (9000 - max 0 (drp r k i))), .int .i64 ((k : Int) + 1)] ⟨k + 1, rfl, rfl, by omega⟩ (by simp [K.nth, intOf]; omega) (List.Sublist.refl _) (by kernel_rfl)
        try replace ht76 := of_decide_eq_false ht76
        have e0 : k = r.length := by omega
        subst e0
        have hlb := low_bd g ht0 hi
        have hti := htb i
        have hfit : 0 + i * 1 + 1 ≤ ((hsD r (turnS ys) D).flatMap K.eI).length := by rw [eI_len]; omega
        have hset : K.over ((hsD r (turnS ys) D).flatMap K.eI) (0 + i * 1) (K.cl (.int .i64 (anyV r (turnS ys) i))) = (hsD r (turnS ys) (D.set i true)).flatMap K.eI := by
          rw [← hsD_set hi hdl]
          exact K.set_cut0 (e := K.eI) (size := 1) (x := anyV r (turnS ys) i) (fun _ => rfl) (by omega)
        have hfit2 : 0 + i * 1 + 1 ≤ (D.flatMap eO).length := by rw [eO_len]; omega
        have hset2 : K.over (D.flatMap eO) (0 + i * 1) (K.cl (.bool true)) = (D.set i true).flatMap eO := K.set_cut0 (e := eO) (size := 1) (x := true) (fun _ => rfl) (by omega)
        refine K.exit ?_
        refine K.exit_then ?_
        refine K.exit_then ?_
        refine K.exit_here ?_
        refine K.norm_then ?_
        refine K.region_lit ?_
        iterate 8 refine qm ?_
        refine K.seq_call (K.call_g cal_45 (fun F w hF hw => c45 (hY.pass hw) hyb hyl (by omega))) rfl ?_
        refine zN ?_
        refine qp (K.Pure.eq (K.add_i64 rfl rfl (by omega)) (show _ = Value.int .i64 (lowV r (turnS ys) i + (turnS ys) i) from congrArg (Value.int .i64) (by rw [← hlow]))) ?_
        refine qp (K.Pure.eq (K.min_int rfl rfl) (show _ = Value.int .i64 (anyV r (turnS ys) i) from congrArg (Value.int .i64) (any_eq g hi).symm)) ?_
        refine K.seq_pure (K.Pure.eq (K.indexAddr_sl sl_26 rfl rfl (by omega) (by omega)) (show _ = Value.pointer (some ⟨b14, 0 + i * 1, none⟩) from by rw [K.add_lit, Int.toNat_natCast])) rfl ?_
        refine zN ?_
        refine zN ?_
        refine K.seq_st (K.store_ix (cs := (hsD r (turnS ys) D).flatMap K.eI) sz_3 rfl rfl hfit rfl (K.rpe K.rp1 (congrArg (K.blk b14 3) hset.symm))) rfl ?_
        refine zN ?_
        refine zN ?_
        refine K.seq_pure (K.Pure.eq (K.indexAddr_sl sl_105 rfl rfl (by omega) (by omega)) (show _ = Value.pointer (some ⟨b17, 0 + i * 1, none⟩) from by rw [K.add_lit, Int.toNat_natCast])) rfl ?_
        refine zN ?_
        refine zN ?_
        refine K.seq_st (K.store_ix (cs := D.flatMap eO) sz_4 rfl rfl hfit2 rfl (K.rpe K.rp0 (congrArg (K.blk b17 4) hset2.symm))) rfl ?_
        refine zN ?_
        refine zN ?_
        refine K.seq_nil ?_
        refine K.norm_block ?_
        refine K.norm_then ?_
        refine K.region_lit ?_
        refine qm ?_
        refine qp (K.add_i64 rfl rfl (by omega)) ?_
        refine qa ?_
        refine K.seq_nil ?_
        have hDi : dep r i < m + 1 → (D.set i true).getD i default = true := fun _ => set_get hdl hi
        exact K.round_endW (L'' := [K.blk b17 4 ((D.set i true).flatMap eO), K.blk b14 3 ((hsD r (turnS ys) (D.set i true)).flatMap K.eI)]) [.int .i64 ((i : Int) + 1)] ⟨i + 1, D.set i true, rfl, rfl, by omega, by rw [List.length_set]; exact hdl, fun j hj h => set_old (hD j hj h), K.lt_succ_case (fun j hj h => set_old (hI j hj h)) hDi⟩ (by simp [K.nth, intOf]; omega) (List.Sublist.refl _) (by kernel_rfl)
      try replace ht58 := of_decide_eq_false ht58
      have hlow : (0 : Int) = lowV r (turnS ys) i := by unfold lowV; rw [if_pos (Decidable.not_not.1 ht58)]
      refine K.skip ?_
      refine K.norm_then ?_
      refine sr ?_
      refine qa ?_
      refine sn ?_
      refine K.seq ?_
      refine sr ?_
      refine qa ?_
      refine sn ?_
      refine K.block ?_
      refine K.loopW [10, 11] [73, 74, 75, 76, 77, 78, 79, 80, 81, 82, 83, 84, 85, 86] (fun vi L => ∃ k : Nat, vi = [.int .i64 (mostF r i k), .int .i64 (k : Int)] ∧ L = [K.blk b17 4 (D.flatMap eO), K.blk b14 3 ((hsD r (turnS ys) D).flatMap K.eI)] ∧ k ≤ r.length) (fun vi => r.length - (intOf (K.nth vi 1)).toNat) ?_ ?_
      · exact ⟨0, rfl, rfl, Nat.zero_le _⟩
      intro vi vr L hJ
      obtain ⟨k, rfl, rfl, hkn⟩ := hJ
      try dsimp only [setd, setn, ev, nth, over, cl, eI, eP, eT, eR, setM, setF, List.map, List.append, List.drop, List.take]
      refine K.seq ?_
      refine sr ?_
      iterate 2 refine qm ?_
      refine qp (K.len_sl sl_22 rfl) ?_
      refine qp (K.lss rfl rfl) ?_
      refine sn ?_
      refine K.cond rfl (fun ht76 => ?_) (fun ht76 => ?_)
      · try replace ht76 := of_decide_eq_true ht76
        have hk : k < r.length := by omega
        have hdb := drp_bd (k := i) g hk
        have hmb := most_bd (i := i) g k (by omega)
        refine K.skip ?_
        refine K.norm_then ?_
        refine K.seq ?_
        refine K.block ?_
        refine K.region_lit ?_
        iterate 4 refine qm ?_
        refine K.seq_call (K.call_g cal_37 (fun F w hF hw => c37 (hR.pass hw) g hk)) rfl ?_
        refine zN ?_
        refine qp (K.max_int rfl rfl) ?_
        refine qp (K.sub_i64 rfl rfl (by omega)) ?_
        refine qp (K.min_int rfl rfl) ?_
        refine qa ?_
        refine K.seq_nil ?_
        refine K.norm_block ?_
        refine K.norm_then ?_
        refine K.region_lit ?_
        refine qm ?_
        refine qp (K.add_i64 rfl rfl (by omega)) ?_
        refine qa ?_
        refine K.seq_nil ?_
        exact K.round_endW (L'' := [K.blk b17 4 (D.flatMap eO), K.blk b14 3 ((hsD r (turnS ys) D).flatMap K.eI)]) [.int .i64 (min (mostF r i k) (9000 - max 0 (drp r k i))), .int .i64 ((k : Int) + 1)] ⟨k + 1, rfl, rfl, by omega⟩ (by simp [K.nth, intOf]; omega) (List.Sublist.refl _) (by kernel_rfl)
      try replace ht76 := of_decide_eq_false ht76
      have e0 : k = r.length := by omega
      subst e0
      have hlb := low_bd g ht0 hi
      have hti := htb i
      have hfit : 0 + i * 1 + 1 ≤ ((hsD r (turnS ys) D).flatMap K.eI).length := by rw [eI_len]; omega
      have hset : K.over ((hsD r (turnS ys) D).flatMap K.eI) (0 + i * 1) (K.cl (.int .i64 (anyV r (turnS ys) i))) = (hsD r (turnS ys) (D.set i true)).flatMap K.eI := by
        rw [← hsD_set hi hdl]
        exact K.set_cut0 (e := K.eI) (size := 1) (x := anyV r (turnS ys) i) (fun _ => rfl) (by omega)
      have hfit2 : 0 + i * 1 + 1 ≤ (D.flatMap eO).length := by rw [eO_len]; omega
      have hset2 : K.over (D.flatMap eO) (0 + i * 1) (K.cl (.bool true)) = (D.set i true).flatMap eO := K.set_cut0 (e := eO) (size := 1) (x := true) (fun _ => rfl) (by omega)
      refine K.exit ?_
      refine K.exit_then ?_
      refine K.exit_then ?_
      refine K.exit_here ?_
      refine K.norm_then ?_
      refine K.region_lit ?_
      iterate 8 refine qm ?_
      refine K.seq_call (K.call_g cal_45 (fun F w hF hw => c45 (hY.pass hw) hyb hyl (by omega))) rfl ?_
      refine zN ?_
      refine qp (K.Pure.eq (K.add_i64 rfl rfl (by omega)) (show _ = Value.int .i64 (lowV r (turnS ys) i + (turnS ys) i) from congrArg (Value.int .i64) (by rw [← hlow]))) ?_
      refine qp (K.Pure.eq (K.min_int rfl rfl) (show _ = Value.int .i64 (anyV r (turnS ys) i) from congrArg (Value.int .i64) (any_eq g hi).symm)) ?_
      refine K.seq_pure (K.Pure.eq (K.indexAddr_sl sl_26 rfl rfl (by omega) (by omega)) (show _ = Value.pointer (some ⟨b14, 0 + i * 1, none⟩) from by rw [K.add_lit, Int.toNat_natCast])) rfl ?_
      refine zN ?_
      refine zN ?_
      refine K.seq_st (K.store_ix (cs := (hsD r (turnS ys) D).flatMap K.eI) sz_3 rfl rfl hfit rfl (K.rpe K.rp1 (congrArg (K.blk b14 3) hset.symm))) rfl ?_
      refine zN ?_
      refine zN ?_
      refine K.seq_pure (K.Pure.eq (K.indexAddr_sl sl_105 rfl rfl (by omega) (by omega)) (show _ = Value.pointer (some ⟨b17, 0 + i * 1, none⟩) from by rw [K.add_lit, Int.toNat_natCast])) rfl ?_
      refine zN ?_
      refine zN ?_
      refine K.seq_st (K.store_ix (cs := D.flatMap eO) sz_4 rfl rfl hfit2 rfl (K.rpe K.rp0 (congrArg (K.blk b17 4) hset2.symm))) rfl ?_
      refine zN ?_
      refine zN ?_
      refine K.seq_nil ?_
      refine K.norm_block ?_
      refine K.norm_then ?_
      refine K.region_lit ?_
      refine qm ?_
      refine qp (K.add_i64 rfl rfl (by omega)) ?_
      refine qa ?_
      refine K.seq_nil ?_
      have hDi : dep r i < m + 1 → (D.set i true).getD i default = true := fun _ => set_get hdl hi
      exact K.round_endW (L'' := [K.blk b17 4 ((D.set i true).flatMap eO), K.blk b14 3 ((hsD r (turnS ys) (D.set i true)).flatMap K.eI)]) [.int .i64 ((i : Int) + 1)] ⟨i + 1, D.set i true, rfl, rfl, by omega, by rw [List.length_set]; exact hdl, fun j hj h => set_old (hD j hj h), K.lt_succ_case (fun j hj h => set_old (hI j hj h)) hDi⟩ (by simp [K.nth, intOf]; omega) (List.Sublist.refl _) (by kernel_rfl)
    try replace ht27 := of_decide_eq_false ht27
    refine K.exit ?_
    refine K.exit_then ?_
    refine K.exit_then ?_
    refine K.exit_here ?_
    refine K.norm_block ?_
    refine K.norm_then ?_
    refine K.region_lit ?_
    refine qm ?_
    refine qp (K.add_i64 rfl rfl (by omega)) ?_
    refine qa ?_
    refine K.seq_nil ?_
    exact K.round_endW (L'' := [K.blk b17 4 (D.flatMap eO), K.blk b14 3 ((hsD r (turnS ys) D).flatMap K.eI)]) [.int .i64 ((m : Int) + 1)] ⟨m + 1, D, rfl, rfl, by omega, hdl, fun j hj h => hI j (by omega) h⟩ (by simp [K.nth, intOf]; omega) (List.Sublist.refl _) (by kernel_rfl)
  try replace ht21 := of_decide_eq_false ht21
  refine K.exit ?_
  refine K.exit_then ?_
  refine K.exit_then ?_
  refine K.exit_here ?_
  refine K.norm_then ?_
  refine sr ?_
  refine qm ?_
  refine qa ?_
  refine sn ?_
  refine K.ret ?_
  refine K.end_ret (fun w _ => K.res_tmp rfl w) ?_
  have hall : (hsD r (turnS ys) D) = anyS r (turnS ys) := hsD_all (fun j hj => hD j hj (by have := dep_lt g hj; omega))
  rw [hall]
  have hal := any_len (r := r) (t := (turnS ys))
  refine K.permH (L' := [_, _]) (List.perm_middle (l₁ := [_])) ?_
  refine K.blk_row (size := 1) (n := r.length) (by rw [eI_len]; omega) (by simp only [maxLen]; omega) ?_
  exact K.rets_s K.m0 hal.symm rfl rfl

end Go.Proofs.YtoemnobfnnjopaaDoor
