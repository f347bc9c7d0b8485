/-
  Walks of the program's functions, printed by program: what each returns.
  Conditions stand in each theorem.
-/
import Derived.Test.YtafkbioeoklldaaKf
import Derived.Test.YtafkbioeoklldaaK2
import Derived.WalkArith
import Derived.Test.YtafkbioeoklldaaK4
import Derived.Test.YtafkbioeoklldaaS6
import Derived.Test.YtafkbioeoklldaaWb
import Derived.Test.YtafkbioeoklldaaWf
import Derived.Test.YtafkbioeoklldaaWh
set_option linter.unusedSimpArgs false
set_option linter.unusedVariables false
namespace Go.Proofs.Ytafkbioeoklldaa
open Go.RowKit Go
open Go.K (setd setn ev nth over cl eI eP eT setM setF)
attribute [local irreducible] K.blk K.row
theorem bs125 (A : Option Addr) (n c : Nat) : K.Bs Try.prog 125 1 [(0, .slice A n c)] 22 [.slice A n c] := fun w => by kernel_rfl
theorem ll_app {A : Option Addr} {c : Nat} {vs us : List Value} {F : Nat → Prop} {zs : List (List Int)} : [K.row (.slice A (vs.length + us.length) c) 22 1 (vs.length + us.length) (vs.flatMap K.eV ++ us.flatMap K.eV), K.inn F (vs ++ us) zs] = [K.row (.slice A (vs ++ us).length c) 22 1 (vs ++ us).length ((vs ++ us).flatMap K.eV), K.inn F (vs ++ us) zs] := by rw [List.length_append, List.flatMap_append]
theorem len_app {E E' : Type} {vs us : List E} {P Z : List E'} (h : vs.length = P.length) (h2 : us.length = Z.length) : (vs ++ us).length = (P ++ Z).length := by rw [List.length_append, List.length_append, h, h2]
theorem vi_app {A : Option Addr} {c : Nat} {vs us : List Value} {x y : Int} (h : x = y) : [Value.slice A (vs.length + us.length) c, .int .i64 x] = [.slice A (vs ++ us).length c, .int .i64 y] := by rw [List.length_append, h]
theorem bs22_0 : K.Bs Try.prog 22 0 [] 3 [] := fun w => by kernel_rfl

set_option maxRecDepth 100000 in
theorem z78 {A : Option Addr} {b : List Int} {c n : Nat} (w : World) :
    Calls Try.prog 78 [.slice A b.length c, .int .i64 0, .int .i64 n].toArray w (K.Ret (fun _ : Nat => True) (fun r => .slice (some ⟨r, 0, none⟩) 1 1) (fun r => [K.blk r 22 [.slice A b.length c]]) w) := by
  refine K.enter (args := [.slice A b.length c, .int .i64 0, .int .i64 n]) Try.func78 rfl (n := 40) rfl ?_
  simp only [List.replicate, List.cons_append, List.nil_append]
  refine K.seq ?_
  refine K.region_lit ?_
  refine K.seq_pure (K.assign) rfl ?_
  dsimp only [setd, setn, ev, nth]
  refine K.seq_nil ?_
  refine K.norm_then ?_
  refine K.seq ?_
  refine K.seq ?_
  refine K.region_lit ?_
  refine K.seq_pure (K.move) rfl ?_
  dsimp only [setd, setn, ev, nth]
  refine K.seq_pure (K.eql rfl rfl) rfl ?_
  dsimp only [setd, setn, ev, nth]
  refine K.seq_nil ?_
  refine K.norm_then ?_
  refine K.cond rfl (fun ht11 => ?_) (fun ht11 => ?_)
  · try replace ht11 := of_decide_eq_true ht11
    refine K.seq ?_
    refine K.region_lit ?_
    refine K.seq_pure (K.move) rfl ?_
    dsimp only [setd, setn, ev, nth]
    refine K.seq_new (K.buildSlice (bs125 _ _ _)) rfl ?_
    intro b13
    try dsimp only [setd, setn, ev, nth, over, cl, eI, eP, eT, List.map, List.append, List.drop, List.take]
    refine K.seq_pure (K.assign) rfl ?_
    dsimp only [setd, setn, ev, nth]
    refine K.seq_nil ?_
    refine K.norm_then ?_
    refine K.ret ?_
    refine K.ret_then ?_
    refine K.end_ret (fun w _ => K.res_tmp rfl w) ?_
    exact K.rets b13 trivial rfl (List.Sublist.refl _)
  try replace ht11 := of_decide_eq_false ht11
  exact absurd rfl ht11

set_option maxRecDepth 100000 in
set_option maxHeartbeats 1000000 in
theorem a78 {n : Nat} {A : Option Addr} {b : List Int} {c : Nat} {w : World} (hB : K.Rd w A 1 K.eI b) (hn8 : n ≤ 8) (hf : 0 ≤ fromS b ∧ fromS b ≤ 8) (hbl : b.length ≤ 1008) :
    Calls Try.prog 78 [.slice A b.length c, .int .i64 1, .int .i64 n].toArray w (K.RetLL (listsS (0 + 1) b n) w) := by
  refine K.enter (args := [.slice A b.length c, .int .i64 1, .int .i64 n]) Try.func78 rfl (n := 40) rfl ?_
  simp only [List.replicate, List.cons_append, List.nil_append]
  refine K.seq ?_
  refine K.region_lit ?_
  refine K.seq_pure (K.assign) rfl ?_
  dsimp only [setd, setn, ev, nth]
  refine K.seq_nil ?_
  refine K.norm_then ?_
  refine K.seq ?_
  refine K.seq ?_
  refine K.region_lit ?_
  refine K.seq_pure (K.move) rfl ?_
  dsimp only [setd, setn, ev, nth]
  refine K.seq_pure (K.eql rfl rfl) rfl ?_
  dsimp only [setd, setn, ev, nth]
  refine K.seq_nil ?_
  refine K.norm_then ?_
  refine K.cond rfl (fun ht11 => ?_) (fun ht11 => ?_)
  · try replace ht11 := of_decide_eq_true ht11
    exact absurd ht11 (by omega)
  try replace ht11 := of_decide_eq_false ht11
  refine K.skip ?_
  refine K.norm_then ?_
  refine K.seq ?_
  refine K.region_lit ?_
  refine K.seq_pure (K.assign) rfl ?_
  dsimp only [setd, setn, ev, nth]
  refine K.seq_nil ?_
  refine K.norm_then ?_
  refine K.seqJ [7] [14, 15, 16, 17, 18, 19, 20, 21, 22, 23] (fun vi L => vi = [.int .i64 (fromS b)] ∧ L = []) ?_ ?_
  · refine K.seq ?_
    refine K.region_lit ?_
    refine K.seq_pure (K.move) rfl ?_
    dsimp only [setd, setn, ev, nth]
    refine K.seq_pure (K.len_sl sl_22 rfl) rfl ?_
    dsimp only [setd, setn, ev, nth]
    refine K.seq_pure (K.gtr rfl rfl) rfl ?_
    dsimp only [setd, setn, ev, nth]
    refine K.seq_nil ?_
    refine K.norm_then ?_
    refine K.cond rfl (fun ht16 => ?_) (fun ht16 => ?_)
    · try replace ht16 := of_decide_eq_true ht16
      have e0 : fromS b = b.getD (b.length - 1) default + 1 := by unfold fromS; rw [if_neg (by omega)]
      refine K.region_lit ?_
      refine K.seq_pure (K.move) rfl ?_
      dsimp only [setd, setn, ev, nth]
      refine K.seq_pure (K.move) rfl ?_
      dsimp only [setd, setn, ev, nth]
      refine K.seq_pure (K.len_sl sl_22 rfl) rfl ?_
      dsimp only [setd, setn, ev, nth]
      refine K.seq_pure (K.sub_i64 rfl rfl (by omega)) rfl ?_
      dsimp only [setd, setn, ev, nth]
      refine K.seq_ix (M := []) (b.length - 1) hB.sl sl_22 rfl rfl (by omega) (by omega) rfl ?_
      intro p21 hp21
      try dsimp only [setd, setn, ev, nth, over, cl, eI, eP, eT, List.map, List.append, List.drop, List.take]
      refine K.seq_sil (K.load1 one_3 rfl (hp21.any)) rfl ?_
      try dsimp only [setd, setn, ev, nth, over, cl, eI, eP, eT, List.map, List.append, List.drop, List.take]
      refine K.seq_pure (K.add_i64 rfl rfl (by omega)) rfl ?_
      dsimp only [setd, setn, ev, nth]
      refine K.seq_pure (K.assign) rfl ?_
      dsimp only [setd, setn, ev, nth]
      refine K.seq_nil ?_
      exact K.join_here (L' := []) [.int .i64 (fromS b)] ⟨rfl, rfl⟩ (fun w h => h) (by rw [e0]; kernel_rfl)
    try replace ht16 := of_decide_eq_false ht16
    have e0 : fromS b = 0 := by unfold fromS; rw [if_pos (by omega)]
    refine K.skip ?_
    exact K.join_here (L' := []) [.int .i64 (fromS b)] ⟨rfl, rfl⟩ (fun w h => h) (by rw [e0]; kernel_rfl)
  intro vi vr L hJ
  obtain ⟨rfl, rfl⟩ := hJ
  try dsimp only [setd, setn, ev, nth, over, cl, eI, eP, eT, setM, setF, List.map, List.append, List.drop, List.take]
  refine K.seq ?_
  refine K.region_lit ?_
  refine K.inn_none [] [] rfl (by simp) ?_
  refine K.nil_row (e := 22) (size := 1) ?_
  refine K.seq_pure (K.assign) rfl ?_
  dsimp only [setd, setn, ev, nth]
  refine K.seq_nil ?_
  refine K.norm_then ?_
  refine K.seq ?_
  refine K.seq ?_
  refine K.region_lit ?_
  refine K.seq_pure (K.move) rfl ?_
  dsimp only [setd, setn, ev, nth]
  refine K.seq_pure (K.assign) rfl ?_
  dsimp only [setd, setn, ev, nth]
  refine K.seq_nil ?_
  refine K.norm_then ?_
  refine K.block ?_
  refine K.loopW [8, 9] [25, 26, 27, 28, 29, 30, 31, 32, 33, 34, 35, 36, 37, 38, 39, 40, 41] (fun vi L => ∃ (k : Nat) (Q1 : Option Addr) (q1 : Nat) (vs : List Value) (F : Nat → Prop), vi = [.slice Q1 vs.length q1, .int .i64 (fromS b + (k : Int))] ∧ L = [K.row (.slice Q1 vs.length q1) 22 1 vs.length (vs.flatMap K.eV), K.inn F vs (partS 0 b n k)] ∧ vs.all Value.oneCell' = true ∧ vs.length = (partS 0 b n k).length ∧ k ≤ ((n : Int) - fromS b).toNat) (fun vi => ((n : Int) - intOf (K.nth vi 1)).toNat) ?_ ?_
  · exact ⟨0, none, 0, [], fun _ => False, by rw [show ((0 : Nat) : Int) = 0 from rfl, Int.add_zero]; rfl, rfl, rfl, rfl, Nat.zero_le _⟩
  intro vi vr L hJ
  obtain ⟨k, Q1, q1, vs, F, rfl, rfl, hvo, hvl, hkn⟩ := hJ
  try dsimp only [setd, setn, ev, nth, over, cl, eI, eP, eT, setM, setF, List.map, List.append, List.drop, List.take]
  refine K.seq ?_
  refine K.seq ?_
  refine K.region_lit ?_
  refine K.seq_pure (K.move) rfl ?_
  dsimp only [setd, setn, ev, nth]
  refine K.seq_pure (K.move) rfl ?_
  dsimp only [setd, setn, ev, nth]
  refine K.seq_pure (K.lss rfl rfl) rfl ?_
  dsimp only [setd, setn, ev, nth]
  refine K.seq_nil ?_
  refine K.norm_then ?_
  refine K.cond rfl (fun ht27 => ?_) (fun ht27 => ?_)
  · try replace ht27 := of_decide_eq_true ht27
    have hk : k < ((n : Int) - fromS b).toNat := by omega
    have hpl := part_len (m := 0) (b := b) (n := n) (k := k) (by omega) hf.1 (by omega) (by omega)
    refine K.skip ?_
    refine K.norm_then ?_
    refine K.seq ?_
    refine K.block ?_
    refine K.region_lit ?_
    refine K.seq_pure (K.move) rfl ?_
    dsimp only [setd, setn, ev, nth]
    refine K.seq_new (K.buildSlice (bs22_0)) rfl ?_
    intro b31
    try dsimp only [setd, setn, ev, nth, over, cl, eI, eP, eT, List.map, List.append, List.drop, List.take]
    refine K.blk_row0 (size := 1) ?_
    try dsimp only [setd, setn, ev, nth, over, cl, eI, eP, eT, List.map, List.append, List.drop, List.take]
    refine K.seq_pure (K.move) rfl ?_
    dsimp only [setd, setn, ev, nth]
    refine K.seq_upd (K.appendS el_22 rfl rfl hB.sl (fun _ => rfl) (K.oneI _) (by omega) (by omega) (fun _ _ => K.rp0)) rfl ?_
    rintro ⟨A33, c33⟩ _
    try dsimp only [setd, setn, ev, nth, over, cl, eI, eP, eT, List.map, List.append, List.drop, List.take]
    refine K.seq_pure (K.move) rfl ?_
    dsimp only [setd, setn, ev, nth]
    refine K.seq_new (K.buildSlice (bs1 _)) rfl ?_
    intro b35
    try dsimp only [setd, setn, ev, nth, over, cl, eI, eP, eT, List.map, List.append, List.drop, List.take]
    refine K.seq_upd (K.append el_22 rfl rfl (K.PtrL.own' (K.m0)) rfl rfl (by decide) (by omega) (by omega) (fun _ _ => K.rp1)) rfl ?_
    rintro ⟨g36, c36⟩ _
    try dsimp only [setd, setn, ev, nth, over, cl, eI, eP, eT, List.map, List.append, List.drop, List.take]
    rw [show 0 + b.length + 1 = (b ++ [fromS b + (k : Int)]).length from by simp, show [] ++ b.flatMap K.eI ++ [Value.int .i64 (fromS b + (k : Int))] = (b ++ [fromS b + (k : Int)]).flatMap K.eI from by simp [K.eI]]
    try dsimp only [setd, setn, ev, nth, over, cl, eI, eP, eT, List.map, List.append, List.drop, List.take]
    refine K.seq_pure (K.move) rfl ?_
    dsimp only [setd, setn, ev, nth]
    refine K.seq_pure (K.Pure.eq (K.sub_i64 rfl rfl (by omega)) (show _ = Value.int .i64 0 from rfl)) rfl ?_
    dsimp only [setd, setn, ev, nth]
    refine K.seq_pure (K.move) rfl ?_
    dsimp only [setd, setn, ev, nth]
    refine K.seq_loud (K.call_f cal_78 (fun F w hF hw => z78 (b := (b ++ [fromS b + (k : Int)])) (n := n) w)) rfl ?_
    rintro b40 _
    try dsimp only [setd, setn, ev, nth, over, cl, eI, eP, eT, List.map, List.append, List.drop, List.take]
    refine K.seq_upd (K.append el_125 rfl rfl (K.PtrL.own' K.m0) rfl rfl (by decide) (by omega) (by omega) (fun _ _ => K.rp3)) rfl ?_
    rintro ⟨g41, c41⟩ _
    try dsimp only [setd, setn, ev, nth, over, cl, eI, eP, eT, List.map, List.append, List.drop, List.take]
    refine K.seq_pure (K.assign) rfl ?_
    dsimp only [setd, setn, ev, nth]
    refine K.seq_nil ?_
    refine K.norm_block ?_
    refine K.norm_then ?_
    refine K.region_lit ?_
    refine K.seq_pure (K.move) rfl ?_
    dsimp only [setd, setn, ev, nth]
    refine K.seq_pure (K.add_i64 rfl rfl (by omega)) rfl ?_
    dsimp only [setd, setn, ev, nth]
    refine K.seq_pure (K.assign) rfl ?_
    dsimp only [setd, setn, ev, nth]
    refine K.seq_nil ?_
    refine K.weak (L' := [K.row (.slice (some ⟨g36, 0, none⟩) (b ++ [fromS b + (k : Int)]).length c36) 3 1 (b ++ [fromS b + (k : Int)]).length ((b ++ [fromS b + (k : Int)]).flatMap K.eI), K.row (.slice (some ⟨g41, 0, none⟩) (vs.length + 1) c41) 22 1 (vs.length + 1) (vs.flatMap K.eV ++ [(.slice (some ⟨g36, 0, none⟩) (b ++ [fromS b + (k : Int)]).length c36)]), K.inn F vs (partS 0 b n k)]) (List.Sublist.cons _ (List.Sublist.cons _ (List.Sublist.cons_cons _ (List.Sublist.cons_cons _ (List.Sublist.cons_cons _ (List.nil_sublist _)))))) ?_
    refine K.row_inn (.inr ⟨_, rfl⟩) ?_
    refine K.reorder (.trans (.cons _ (.swap _ _ _)) (.swap _ _ _)) ?_
    refine K.inn_app ?_
    refine K.reorder (.swap _ _ _) ?_
    exact K.round_endW (vi := _) [.slice (some ⟨g41, 0, none⟩) (vs.length + 1) c41, .int .i64 (fromS b + (k : Int) + 1)] ⟨k + 1, some ⟨g41, 0, none⟩, c41, vs ++ [(.slice (some ⟨g36, 0, none⟩) (b ++ [fromS b + (k : Int)]).length c36)], _, vi_app (us := [(.slice (some ⟨g36, 0, none⟩) (b ++ [fromS b + (k : Int)]).length c36)]) (by omega), by rw [partS_succ]; exact ll_app (us := [(.slice (some ⟨g36, 0, none⟩) (b ++ [fromS b + (k : Int)]).length c36)]), by rw [List.all_append, hvo]; rfl, by rw [partS_succ]; exact len_app hvl rfl, by omega⟩ (by simp [K.nth, intOf]; omega) (List.Sublist.refl _) (by kernel_rfl)
  try replace ht27 := of_decide_eq_false ht27
  refine K.exit ?_
  refine K.exit_then ?_
  refine K.exit_then ?_
  refine K.exit_here ?_
  refine K.norm_then ?_
  refine K.seq ?_
  refine K.region_lit ?_
  refine K.seq_pure (K.move) rfl ?_
  dsimp only [setd, setn, ev, nth]
  refine K.seq_pure (K.assign) rfl ?_
  dsimp only [setd, setn, ev, nth]
  refine K.seq_nil ?_
  refine K.norm_then ?_
  refine K.ret ?_
  refine K.end_ret (fun w _ => K.res_tmp rfl w) ?_
  have hkk : k = ((n : Int) - fromS b).toNat := by omega
  have e1 : (partS 0 b n k) = listsS (0 + 1) b n := by rw [hkk]; exact partS_all
  rw [← e1]
  exact K.rets (Q1, q1, vs, F) ⟨hvo, hvl⟩ rfl (List.Sublist.refl _)

set_option maxRecDepth 100000 in
set_option maxHeartbeats 1000000 in
theorem b78 {n : Nat} {m : Nat} (hm8 : m + 1 ≤ 8) (ih : ∀ {A : Option Addr} {b : List Int} {c : Nat} {w : World}, K.Rd w A 1 K.eI b → n ≤ 8 → 0 ≤ fromS b ∧ fromS b ≤ 8 → b.length ≤ 1000 + 8 - m → Calls Try.prog 78 [.slice A b.length c, .int .i64 ((m + 1 : Nat) : Int), .int .i64 n].toArray w (K.RetLL (listsS (m + 1) b n) w)) {A : Option Addr} {b : List Int} {c : Nat} {w : World} (hB : K.Rd w A 1 K.eI b) (hn8 : n ≤ 8) (hf : 0 ≤ fromS b ∧ fromS b ≤ 8) (hbl : b.length ≤ 1000 + 8 - (m + 1)) :
    Calls Try.prog 78 [.slice A b.length c, .int .i64 ((m + 2 : Nat) : Int), .int .i64 n].toArray w (K.RetLL (listsS ((m + 1) + 1) b n) w) := by
  refine K.enter (args := [.slice A b.length c, .int .i64 ((m + 2 : Nat) : Int), .int .i64 n]) Try.func78 rfl (n := 40) rfl ?_
  simp only [List.replicate, List.cons_append, List.nil_append]
  refine K.seq ?_
  refine K.region_lit ?_
  refine K.seq_pure (K.assign) rfl ?_
  dsimp only [setd, setn, ev, nth]
  refine K.seq_nil ?_
  refine K.norm_then ?_
  refine K.seq ?_
  refine K.seq ?_
  refine K.region_lit ?_
  refine K.seq_pure (K.move) rfl ?_
  dsimp only [setd, setn, ev, nth]
  refine K.seq_pure (K.eql rfl rfl) rfl ?_
  dsimp only [setd, setn, ev, nth]
  refine K.seq_nil ?_
  refine K.norm_then ?_
  refine K.cond rfl (fun ht11 => ?_) (fun ht11 => ?_)
  · try replace ht11 := of_decide_eq_true ht11
    exact absurd ht11 (by omega)
  try replace ht11 := of_decide_eq_false ht11
  refine K.skip ?_
  refine K.norm_then ?_
  refine K.seq ?_
  refine K.region_lit ?_
  refine K.seq_pure (K.assign) rfl ?_
  dsimp only [setd, setn, ev, nth]
  refine K.seq_nil ?_
  refine K.norm_then ?_
  refine K.seqJ [7] [14, 15, 16, 17, 18, 19, 20, 21, 22, 23] (fun vi L => vi = [.int .i64 (fromS b)] ∧ L = []) ?_ ?_
  · refine K.seq ?_
    refine K.region_lit ?_
    refine K.seq_pure (K.move) rfl ?_
    dsimp only [setd, setn, ev, nth]
    refine K.seq_pure (K.len_sl sl_22 rfl) rfl ?_
    dsimp only [setd, setn, ev, nth]
    refine K.seq_pure (K.gtr rfl rfl) rfl ?_
    dsimp only [setd, setn, ev, nth]
    refine K.seq_nil ?_
    refine K.norm_then ?_
    refine K.cond rfl (fun ht16 => ?_) (fun ht16 => ?_)
    · try replace ht16 := of_decide_eq_true ht16
      have e0 : fromS b = b.getD (b.length - 1) default + 1 := by unfold fromS; rw [if_neg (by omega)]
      refine K.region_lit ?_
      refine K.seq_pure (K.move) rfl ?_
      dsimp only [setd, setn, ev, nth]
      refine K.seq_pure (K.move) rfl ?_
      dsimp only [setd, setn, ev, nth]
      refine K.seq_pure (K.len_sl sl_22 rfl) rfl ?_
      dsimp only [setd, setn, ev, nth]
      refine K.seq_pure (K.sub_i64 rfl rfl (by omega)) rfl ?_
      dsimp only [setd, setn, ev, nth]
      refine K.seq_ix (M := []) (b.length - 1) hB.sl sl_22 rfl rfl (by omega) (by omega) rfl ?_
      intro p21 hp21
      try dsimp only [setd, setn, ev, nth, over, cl, eI, eP, eT, List.map, List.append, List.drop, List.take]
      refine K.seq_sil (K.load1 one_3 rfl (hp21.any)) rfl ?_
      try dsimp only [setd, setn, ev, nth, over, cl, eI, eP, eT, List.map, List.append, List.drop, List.take]
      refine K.seq_pure (K.add_i64 rfl rfl (by omega)) rfl ?_
      dsimp only [setd, setn, ev, nth]
      refine K.seq_pure (K.assign) rfl ?_
      dsimp only [setd, setn, ev, nth]
      refine K.seq_nil ?_
      exact K.join_here (L' := []) [.int .i64 (fromS b)] ⟨rfl, rfl⟩ (fun w h => h) (by rw [e0]; kernel_rfl)
    try replace ht16 := of_decide_eq_false ht16
    have e0 : fromS b = 0 := by unfold fromS; rw [if_pos (by omega)]
    refine K.skip ?_
    exact K.join_here (L' := []) [.int .i64 (fromS b)] ⟨rfl, rfl⟩ (fun w h => h) (by rw [e0]; kernel_rfl)
  intro vi vr L hJ
  obtain ⟨rfl, rfl⟩ := hJ
  try dsimp only [setd, setn, ev, nth, over, cl, eI, eP, eT, setM, setF, List.map, List.append, List.drop, List.take]
  refine K.seq ?_
  refine K.region_lit ?_
  refine K.inn_none [] [] rfl (by simp) ?_
  refine K.nil_row (e := 22) (size := 1) ?_
  refine K.seq_pure (K.assign) rfl ?_
  dsimp only [setd, setn, ev, nth]
  refine K.seq_nil ?_
  refine K.norm_then ?_
  refine K.seq ?_
  refine K.seq ?_
  refine K.region_lit ?_
  refine K.seq_pure (K.move) rfl ?_
  dsimp only [setd, setn, ev, nth]
  refine K.seq_pure (K.assign) rfl ?_
  dsimp only [setd, setn, ev, nth]
  refine K.seq_nil ?_
  refine K.norm_then ?_
  refine K.block ?_
  refine K.loopW [8, 9] [25, 26, 27, 28, 29, 30, 31, 32, 33, 34, 35, 36, 37, 38, 39, 40, 41] (fun vi L => ∃ (k : Nat) (Q1 : Option Addr) (q1 : Nat) (vs : List Value) (F : Nat → Prop), vi = [.slice Q1 vs.length q1, .int .i64 (fromS b + (k : Int))] ∧ L = [K.row (.slice Q1 vs.length q1) 22 1 vs.length (vs.flatMap K.eV), K.inn F vs (partS (m + 1) b n k)] ∧ vs.all Value.oneCell' = true ∧ vs.length = (partS (m + 1) b n k).length ∧ k ≤ ((n : Int) - fromS b).toNat) (fun vi => ((n : Int) - intOf (K.nth vi 1)).toNat) ?_ ?_
  · exact ⟨0, none, 0, [], fun _ => False, by rw [show ((0 : Nat) : Int) = 0 from rfl, Int.add_zero]; rfl, rfl, rfl, rfl, Nat.zero_le _⟩
  intro vi vr L hJ
  obtain ⟨k, Q1, q1, vs, F, rfl, rfl, hvo, hvl, hkn⟩ := hJ
  try dsimp only [setd, setn, ev, nth, over, cl, eI, eP, eT, setM, setF, List.map, List.append, List.drop, List.take]
  refine K.seq ?_
  refine K.seq ?_
  refine K.region_lit ?_
  refine K.seq_pure (K.move) rfl ?_
  dsimp only [setd, setn, ev, nth]
  refine K.seq_pure (K.move) rfl ?_
  dsimp only [setd, setn, ev, nth]
  refine K.seq_pure (K.lss rfl rfl) rfl ?_
  dsimp only [setd, setn, ev, nth]
  refine K.seq_nil ?_
  refine K.norm_then ?_
  refine K.cond rfl (fun ht27 => ?_) (fun ht27 => ?_)
  · try replace ht27 := of_decide_eq_true ht27
    have hk : k < ((n : Int) - fromS b).toNat := by omega
    have hpl := part_len (m := (m + 1)) (b := b) (n := n) (k := k) (by omega) hf.1 (by omega) (by omega)
    have hl8 := lists_len8 (m := (m + 1)) (b := (b ++ [fromS b + (k : Int)])) (n := n) (by omega) (by rw [fromS_snoc]; omega) (by omega)
    refine K.skip ?_
    refine K.norm_then ?_
    refine K.seq ?_
    refine K.block ?_
    refine K.region_lit ?_
    refine K.seq_pure (K.move) rfl ?_
    dsimp only [setd, setn, ev, nth]
    refine K.seq_new (K.buildSlice (bs22_0)) rfl ?_
    intro b31
    try dsimp only [setd, setn, ev, nth, over, cl, eI, eP, eT, List.map, List.append, List.drop, List.take]
    refine K.blk_row0 (size := 1) ?_
    try dsimp only [setd, setn, ev, nth, over, cl, eI, eP, eT, List.map, List.append, List.drop, List.take]
    refine K.seq_pure (K.move) rfl ?_
    dsimp only [setd, setn, ev, nth]
    refine K.seq_upd (K.appendS el_22 rfl rfl hB.sl (fun _ => rfl) (K.oneI _) (by omega) (by omega) (fun _ _ => K.rp0)) rfl ?_
    rintro ⟨A33, c33⟩ _
    try dsimp only [setd, setn, ev, nth, over, cl, eI, eP, eT, List.map, List.append, List.drop, List.take]
    refine K.seq_pure (K.move) rfl ?_
    dsimp only [setd, setn, ev, nth]
    refine K.seq_new (K.buildSlice (bs1 _)) rfl ?_
    intro b35
    try dsimp only [setd, setn, ev, nth, over, cl, eI, eP, eT, List.map, List.append, List.drop, List.take]
    refine K.seq_upd (K.append el_22 rfl rfl (K.PtrL.own' (K.m0)) rfl rfl (by decide) (by omega) (by omega) (fun _ _ => K.rp1)) rfl ?_
    rintro ⟨g36, c36⟩ _
    try dsimp only [setd, setn, ev, nth, over, cl, eI, eP, eT, List.map, List.append, List.drop, List.take]
    rw [show 0 + b.length + 1 = (b ++ [fromS b + (k : Int)]).length from by simp, show [] ++ b.flatMap K.eI ++ [Value.int .i64 (fromS b + (k : Int))] = (b ++ [fromS b + (k : Int)]).flatMap K.eI from by simp [K.eI]]
    try dsimp only [setd, setn, ev, nth, over, cl, eI, eP, eT, List.map, List.append, List.drop, List.take]
    refine K.seq_pure (K.move) rfl ?_
    dsimp only [setd, setn, ev, nth]
    refine K.seq_pure (K.Pure.eq (K.sub_i64 rfl rfl (by omega)) (by rw [show ((m + 2 : Nat) : Int) - 1 = ((m + 1 : Nat) : Int) by omega])) rfl ?_
    dsimp only [setd, setn, ev, nth]
    refine K.seq_pure (K.move) rfl ?_
    dsimp only [setd, setn, ev, nth]
    refine K.seq_loud (K.call_f cal_78 (fun F w hF hw => ih (A := some ⟨g36, 0, none⟩) (c := c36) (b := (b ++ [fromS b + (k : Int)])) (K.Rd.own hw (hF _ (K.m1)) (.inr ⟨_, rfl⟩) (fun _ => rfl) (by decide)) hn8 (by rw [fromS_snoc]; omega) (by rw [List.length_append]; simp; omega))) rfl ?_
    rintro ⟨A40, c40, vs2, F2⟩ ⟨hvo2, hvl2⟩
    try dsimp only [setd, setn, ev, nth, over, cl, eI, eP, eT, List.map, List.append, List.drop, List.take]
    have hvl2' : vs2.length = (listsS (m + 1) (b ++ [fromS b + (k : Int)]) n).length := hvl2
    refine K.use_row K.m0 (fun hA40 => ?_)
    try dsimp only [setd, setn, ev, nth, over, cl, eI, eP, eT, List.map, List.append, List.drop, List.take]
    refine K.seq_upd (K.appendS el_125 rfl rfl ((K.Sl.own (t := 22) (c := c40) (size := 1) (e := K.eV) hA40 (fun _ => rfl)).at1 (K.m0)) (fun _ => rfl) (K.allV hvo2) (by omega) (by omega) (fun _ _ => K.rp4)) rfl ?_
    rintro ⟨A41, c41⟩ _
    try dsimp only [setd, setn, ev, nth, over, cl, eI, eP, eT, List.map, List.append, List.drop, List.take]
    refine K.seq_pure (K.assign) rfl ?_
    dsimp only [setd, setn, ev, nth]
    refine K.seq_nil ?_
    refine K.norm_block ?_
    refine K.norm_then ?_
    refine K.region_lit ?_
    refine K.seq_pure (K.move) rfl ?_
    dsimp only [setd, setn, ev, nth]
    refine K.seq_pure (K.add_i64 rfl rfl (by omega)) rfl ?_
    dsimp only [setd, setn, ev, nth]
    refine K.seq_pure (K.assign) rfl ?_
    dsimp only [setd, setn, ev, nth]
    refine K.seq_nil ?_
    refine K.weak (L' := [K.inn F2 vs2 (listsS (m + 1) (b ++ [fromS b + (k : Int)]) n), K.row (.slice A41 (vs.length + vs2.length) c41) 22 1 (vs.length + vs2.length) (vs.flatMap K.eV ++ vs2.flatMap K.eV), K.inn F vs (partS (m + 1) b n k)]) (List.Sublist.cons _ (List.Sublist.cons_cons _ (List.Sublist.cons _ (List.Sublist.cons _ (List.Sublist.cons_cons _ (List.Sublist.cons_cons _ (List.nil_sublist _))))))) ?_
    refine K.reorder (.trans (.cons _ (.swap _ _ _)) (.swap _ _ _)) ?_
    refine K.inn_app ?_
    refine K.reorder (.swap _ _ _) ?_
    exact K.round_endW (vi := _) [.slice A41 (vs.length + vs2.length) c41, .int .i64 (fromS b + (k : Int) + 1)] ⟨k + 1, A41, c41, vs ++ vs2, _, vi_app (by omega), by rw [partS_succ]; exact ll_app, by rw [List.all_append, hvo, hvo2]; rfl, by rw [partS_succ]; exact len_app hvl hvl2, by omega⟩ (by simp [K.nth, intOf]; omega) (List.Sublist.refl _) (by kernel_rfl)
  try replace ht27 := of_decide_eq_false ht27
  refine K.exit ?_
  refine K.exit_then ?_
  refine K.exit_then ?_
  refine K.exit_here ?_
  refine K.norm_then ?_
  refine K.seq ?_
  refine K.region_lit ?_
  refine K.seq_pure (K.move) rfl ?_
  dsimp only [setd, setn, ev, nth]
  refine K.seq_pure (K.assign) rfl ?_
  dsimp only [setd, setn, ev, nth]
  refine K.seq_nil ?_
  refine K.norm_then ?_
  refine K.ret ?_
  refine K.end_ret (fun w _ => K.res_tmp rfl w) ?_
  have hkk : k = ((n : Int) - fromS b).toNat := by omega
  have e1 : (partS (m + 1) b n k) = listsS ((m + 1) + 1) b n := by rw [hkk]; exact partS_all
  rw [← e1]
  exact K.rets (Q1, q1, vs, F) ⟨hvo, hvl⟩ rfl (List.Sublist.refl _)

theorem c78 {n : Nat} (hn8 : n ≤ 8) : ∀ (m : Nat), m ≤ 8 → ∀ {A : Option Addr} {b : List Int} {c : Nat} {w : World}, K.Rd w A 1 K.eI b → n ≤ 8 → 0 ≤ fromS b ∧ fromS b ≤ 8 → b.length ≤ 1000 + 8 - m → Calls Try.prog 78 [.slice A b.length c, .int .i64 ((m + 1 : Nat) : Int), .int .i64 n].toArray w (K.RetLL (listsS (m + 1) b n) w)
  | 0, _, _, _, _, _, hB, h8, hf, hbl => a78 hB h8 hf hbl
  | m + 1, hm, _, _, _, _, hB, h8, hf, hbl => b78 (by omega) (fun hB h8 hf hbl => c78 hn8 m (by omega) hB h8 hf hbl) hB h8 hf hbl
/-- All lists of so many points. -/
theorem n78 {m n : Nat} (hm : m ≤ 8) (hn8 : n ≤ 8) (w : World) : Calls Try.prog 78 [.slice none 0 0, .int .i64 m, .int .i64 n].toArray w (K.RetLL (listsS m [] n) w) := by
  cases m with
  | zero =>
    refine (z78 (A := none) (b := []) (c := 0) (n := n) w).mono fun e w' h => ?_
    obtain ⟨r, _, he, hst⟩ := h
    have key : K.Hold w [K.blk r 22 [.slice none 0 0]] (fun w' => K.St w [K.row (.slice (some ⟨r, 0, none⟩) 1 1) 22 1 1 [.slice none 0 0], K.inn (fun _ => False) [.slice none 0 0] [[]]] w') :=
      K.blk_row (n := 1) (size := 1) rfl (by decide) (K.inn_none [.slice none 0 0] [[]] rfl (fun i z hz => by
        cases i with
        | zero => simp at hz; exact ⟨hz, none, 0, rfl⟩
        | succ i => simp at hz) (K.reorder (.swap _ _ _) (fun w h => h)))
    exact ⟨(some ⟨r, 0, none⟩, 1, [.slice none 0 0], fun _ => False), ⟨rfl, rfl⟩, he, key w' hst⟩
  | succ m => exact c78 hn8 m (by omega) K.Rd.nil hn8 (by decide) (by simp)


end Go.Proofs.Ytafkbioeoklldaa
