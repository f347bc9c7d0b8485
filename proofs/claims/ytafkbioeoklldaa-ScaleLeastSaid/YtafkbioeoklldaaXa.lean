/-
  Walks of the program's functions, printed by program: what each returns.
  Conditions stand in each theorem.
-/
import Derived.Test.YtafkbioeoklldaaKf
import Derived.Test.YtafkbioeoklldaaKh
import Derived.Test.YtafkbioeoklldaaKl
import Derived.Test.YtafkbioeoklldaaKi
import Derived.WalkArith
import Derived.Test.YtafkbioeoklldaaS5k
import Derived.Test.YtafkbioeoklldaaWy
import Derived.Test.YtafkbioeoklldaaWp
import Derived.Test.YtafkbioeoklldaaWs
set_option linter.unusedSimpArgs false
set_option linter.unusedVariables false
namespace Go.Proofs.Ytafkbioeoklldaa
open Go.RowKit Go
attribute [local irreducible] K.blk K.row
theorem c41g {kind base most : Int} {A B : Option Addr} {c d : Nat} {hs : List Int} {rs : List (Int × Int)} {u v : Int} {w : World} (hH : K.Rd w A 1 K.eI hs) (hR : K.Rd w B 2 K.eP rs) (g : Good kind base most hs rs) (h0 : scE u v = 0) : Calls Try.prog 41 [.agg #[.int .i64 kind, .int .i64 base, .int .i64 most, .slice A hs.length c, .slice B rs.length d], .agg #[.int .i64 u, .int .i64 v]].toArray w (K.Gives (.tuple #[.int .i64 (worstS u v hs (cuts kind base u v hs) rs), .bool true]) w) := by
  have g1 := g.k
  have g2 := g.n
  have g3 := g.r
  have g4 := g.b
  have g5 := g.m
  have h := c41 (A := A) (B := B) (c := c) (d := d) (kind := kind) (base := base) (most := most) (u := u) (v := v) hH hR (by omega) (by omega)
  rw [offsR_ok g h0, ask_ok g h0, offs_len, decide_eq_true rfl, decide_eq_true rfl] at h
  exact h
theorem c42g {kind base most : Int} {A B : Option Addr} {c d : Nat} {hs : List Int} {rs : List (Int × Int)} {u v : Int} {w : World} (hH : K.Rd w A 1 K.eI hs) (hR : K.Rd w B 2 K.eP rs) (g : Good kind base most hs rs) (h0 : scE u v = 0) : Calls Try.prog 42 [.agg #[.int .i64 kind, .int .i64 base, .int .i64 most, .slice A hs.length c, .slice B rs.length d], .agg #[.int .i64 u, .int .i64 v]].toArray w (K.Gives (.tuple #[.bool (fitP kind base most hs (u, v)), .bool true]) w) := by
  have g1 := g.k
  have g2 := g.n
  have g3 := g.r
  have g4 := g.b
  have g5 := g.m
  have h := c42 (A := A) (B := B) (c := c) (d := d) (kind := kind) (base := base) (most := most) (u := u) (v := v) hH hR (by omega) (by omega)
  rw [cutsR_ok g h0, ask_ok g h0, cuts_len, decide_eq_true rfl, decide_eq_true rfl] at h
  exact h
theorem ik_55 : K.ik Try.prog 55 = some .u16 := by kernel_rfl
theorem wrap16 {a : Int} (h : 0 ≤ a ∧ a ≤ 65535) : IntKind.i64.wrap a = a := IntWalk.i64_in _ (by omega)

set_option maxRecDepth 100000 in
theorem c11 {kind base most : Int} {A B : Option Addr} {c d : Nat} {hs : List Int} {rs : List (Int × Int)} {x0 x1 : Int} {w : World} (hH : K.Rd w A 1 K.eI hs) (hR : K.Rd w B 2 K.eP rs) (hn : hs.length ≤ 4611686018427387904) (hm : rs.length ≤ 4611686018427387904) (hx0 : 0 ≤ x0 ∧ x0 ≤ 255) (hx1 : 0 ≤ x1 ∧ x1 ≤ 255) :
    Calls Try.prog 11 [.agg #[.int .i64 kind, .int .i64 base, .int .i64 most, .slice A hs.length c, .slice B rs.length d], .agg #[.int .u8 x0, .int .u8 x1]].toArray w (K.Gives (.bool true) w) := by
  refine K.enter (args := [.agg #[.int .i64 kind, .int .i64 base, .int .i64 most, .slice A hs.length c, .slice B rs.length d], .agg #[.int .u8 x0, .int .u8 x1]]) Try.func11 rfl (n := 100) rfl ?_
  simp only [List.replicate, List.cons_append, List.nil_append]
  refine K.seq ?_
  refine K.region_lit ?_
  refine K.seq_new (K.box) rfl ?_
  intro b2
  try dsimp only [K.setd, K.setn, K.ev, K.nth, K.over, K.cl, K.eI, K.eP, K.eT, List.map, List.append, List.drop, List.take]
  refine K.seq_new (K.box) rfl ?_
  intro b3
  try dsimp only [K.setd, K.setn, K.ev, K.nth, K.over, K.cl, K.eI, K.eP, K.eT, List.map, List.append, List.drop, List.take]
  refine K.seq_pure (K.assign) rfl ?_
  dsimp only [K.setd, K.setn, K.ev, K.nth]
  refine K.seq_nil ?_
  refine K.norm_then ?_
  refine K.seq ?_
  refine K.region_lit ?_
  refine K.seq_sil (K.loadA_own ag_56 rfl (List.Mem.head _) rfl) rfl ?_
  try dsimp only [K.setd, K.setn, K.ev, K.nth, K.over, K.cl, K.eI, K.eP, K.eT, List.map, List.append, List.drop, List.take]
  refine K.seq_loud (K.call_f cal_40 (fun F w hF hw => c40 hx0 hx1 w)) rfl ?_
  rintro ⟨u, v⟩ hsc
  try dsimp only [K.setd, K.setn, K.ev, K.nth, K.over, K.cl, K.eI, K.eP, K.eT, List.map, List.append, List.drop, List.take]
  refine K.seq_new (K.alloc zr_27) rfl ?_
  intro b5
  try dsimp only [K.setd, K.setn, K.ev, K.nth, K.over, K.cl, K.eI, K.eP, K.eT, List.map, List.append, List.drop, List.take]
  refine K.seq_st (K.store_all sz_27 rfl rfl rfl rfl (K.Rep.here)) rfl ?_
  try dsimp only [K.setd, K.setn, K.ev, K.nth, K.over, K.cl, K.eI, K.eP, K.eT, List.map, List.append, List.drop, List.take]
  refine K.seq_nil ?_
  refine K.norm_then ?_
  refine K.seq ?_
  refine K.region_lit ?_
  refine K.seq_sil (K.loadA_own ag_25 rfl (List.Mem.tail _ (List.Mem.tail _ (List.Mem.head _))) rfl) rfl ?_
  try dsimp only [K.setd, K.setn, K.ev, K.nth, K.over, K.cl, K.eI, K.eP, K.eT, List.map, List.append, List.drop, List.take]
  refine K.seq_sil (K.loadA_own ag_27 rfl (List.Mem.head _) rfl) rfl ?_
  try dsimp only [K.setd, K.setn, K.ev, K.nth, K.over, K.cl, K.eI, K.eP, K.eT, List.map, List.append, List.drop, List.take]
  refine K.seq_loud (K.call_f cal_20 (fun F w hF hw => c20 (u := u) (v := v) (hH.pass hw) (hR.pass hw) hn hm)) rfl ?_
  rintro ⟨A1, c1⟩ hA1
  try dsimp only [K.setd, K.setn, K.ev, K.nth, K.over, K.cl, K.eI, K.eP, K.eT, List.map, List.append, List.drop, List.take]
  refine K.seq_pure (K.move) rfl ?_
  dsimp only [K.setd, K.setn, K.ev, K.nth]
  refine K.seq_pure (K.extract rfl rfl) rfl ?_
  dsimp only [K.setd, K.setn, K.ev, K.nth]
  refine K.seq_pure (K.extract rfl rfl) rfl ?_
  dsimp only [K.setd, K.setn, K.ev, K.nth]
  refine K.seq_pure (K.assign) rfl ?_
  dsimp only [K.setd, K.setn, K.ev, K.nth]
  refine K.seq_pure (K.assign) rfl ?_
  dsimp only [K.setd, K.setn, K.ev, K.nth]
  refine K.seq_nil ?_
  refine K.norm_then ?_
  refine K.seq ?_
  refine K.seq ?_
  refine K.region_lit ?_
  refine K.seq_sil (K.loadA_own ag_25 rfl (List.Mem.tail _ (List.Mem.tail _ (List.Mem.tail _ (List.Mem.head _)))) rfl) rfl ?_
  try dsimp only [K.setd, K.setn, K.ev, K.nth, K.over, K.cl, K.eI, K.eP, K.eT, List.map, List.append, List.drop, List.take]
  refine K.seq_call (K.call_g cal_39 (fun F w hF hw => c39 (hH.pass hw) (hR.pass hw) hn hm)) rfl ?_
  try dsimp only [K.setd, K.setn, K.ev, K.nth, K.over, K.cl, K.eI, K.eP, K.eT, List.map, List.append, List.drop, List.take]
  refine K.seq_pure (K.not_d rfl) rfl ?_
  dsimp only [K.setd, K.setn, K.ev, K.nth]
  refine K.seq_nil ?_
  refine K.norm_then ?_
  refine K.cond rfl (fun ht22 => ?_) (fun ht22 => ?_)
  · try replace ht22 := of_decide_eq_true ht22
    refine K.seq ?_
    refine K.region_lit ?_
    refine K.seq_pure (K.move) rfl ?_
    dsimp only [K.setd, K.setn, K.ev, K.nth]
    refine K.seq_pure (K.Pure.eq (K.neq rfl rfl) (show _ = Value.bool true from congrArg Value.bool (decide_eq_true (by rw [ask_bad ht22]; exact ht22)))) rfl ?_
    dsimp only [K.setd, K.setn, K.ev, K.nth]
    refine K.seq_pure (K.move) rfl ?_
    dsimp only [K.setd, K.setn, K.ev, K.nth]
    refine K.seq_pure (K.move) rfl ?_
    dsimp only [K.setd, K.setn, K.ev, K.nth]
    refine K.seq_pure (K.len_sl sl_22 rfl) rfl ?_
    dsimp only [K.setd, K.setn, K.ev, K.nth]
    refine K.seq_pure (K.Pure.eq (K.eql rfl rfl) (show _ = Value.bool true from congrArg Value.bool (decide_eq_true (by rw [offsR_bad ht22]; rfl)))) rfl ?_
    dsimp only [K.setd, K.setn, K.ev, K.nth]
    refine K.seq_pure (K.pick_t rfl) rfl ?_
    dsimp only [K.setd, K.setn, K.ev, K.nth]
    refine K.seq_pure (K.move) rfl ?_
    dsimp only [K.setd, K.setn, K.ev, K.nth]
    refine K.seq_call (K.call_g cal_26 (fun F w hF hw => c26 w)) rfl ?_
    try dsimp only [K.setd, K.setn, K.ev, K.nth, K.over, K.cl, K.eI, K.eP, K.eT, List.map, List.append, List.drop, List.take]
    refine K.seq_pure (K.pick_t rfl) rfl ?_
    dsimp only [K.setd, K.setn, K.ev, K.nth]
    refine K.seq_pure (K.assign) rfl ?_
    dsimp only [K.setd, K.setn, K.ev, K.nth]
    refine K.seq_nil ?_
    refine K.norm_then ?_
    refine K.ret ?_
    refine K.ret_then ?_
    refine K.end_ret (fun w _ => K.res_tmp rfl w) ?_
    exact K.gives rfl
  · try replace ht22 := of_decide_eq_false ht22
    have hc0 : (chk kind base most hs rs).2.2 = 0 := Decidable.not_not.1 ht22
    have g := chk_good hc0
    have g1 := g.k
    have g2 := g.n
    have g3 := g.r
    have g4 := g.b
    have g5 := g.m
    have hsc0 : scE u v = 0 := hsc
    have hp := scE_parts hsc0
    have he0 := ask_ok g hsc0
    have hl0 : (offsR kind base most hs rs u v) = offs u v hs (cuts kind base u v hs) rs := offsR_ok g hsc0
    have hlen : (offsR kind base most hs rs u v).length = rs.length := by rw [hl0, offs_len]
    refine K.skip ?_
    refine K.norm_then ?_
    refine K.seq ?_
    refine K.seq ?_
    refine K.region_lit ?_
    refine K.seq_pure (K.move) rfl ?_
    dsimp only [K.setd, K.setn, K.ev, K.nth]
    refine K.seq_pure (K.Pure.eq (K.neq rfl rfl) (show _ = Value.bool false from congrArg Value.bool (decide_eq_false (fun h => h he0)))) rfl ?_
    dsimp only [K.setd, K.setn, K.ev, K.nth]
    refine K.seq_pure (K.move) rfl ?_
    dsimp only [K.setd, K.setn, K.ev, K.nth]
    refine K.seq_pure (K.move) rfl ?_
    dsimp only [K.setd, K.setn, K.ev, K.nth]
    refine K.seq_pure (K.len_sl sl_22 rfl) rfl ?_
    dsimp only [K.setd, K.setn, K.ev, K.nth]
    refine K.seq_pure (K.fieldAddr_lit fo_25_4 rfl) rfl ?_
    dsimp only [K.setd, K.setn, K.ev, K.nth]
    refine K.seq_sil (K.load1_own one_23 rfl (List.Mem.tail _ (List.Mem.tail _ (List.Mem.tail _ (List.Mem.head _)))) rfl) rfl ?_
    try dsimp only [K.setd, K.setn, K.ev, K.nth, K.over, K.cl, K.eI, K.eP, K.eT, List.map, List.append, List.drop, List.take]
    refine K.seq_pure (K.len_sl sl_23 rfl) rfl ?_
    dsimp only [K.setd, K.setn, K.ev, K.nth]
    refine K.seq_pure (K.Pure.eq (K.neq rfl rfl) (show _ = Value.bool false from congrArg Value.bool (decide_eq_false (fun h => h (by rw [hlen]))))) rfl ?_
    dsimp only [K.setd, K.setn, K.ev, K.nth]
    refine K.seq_pure (K.pick_f rfl) rfl ?_
    dsimp only [K.setd, K.setn, K.ev, K.nth]
    refine K.seq_nil ?_
    refine K.norm_then ?_
    refine K.cond_false rfl ?_
    refine K.skip ?_
    refine K.norm_then ?_
    refine K.seq ?_
    refine K.seq ?_
    refine K.region_lit ?_
    refine K.seq_pure (K.assign) rfl ?_
    dsimp only [K.setd, K.setn, K.ev, K.nth]
    refine K.seq_nil ?_
    refine K.norm_then ?_
    refine K.block ?_
    refine K.loopW [8] [4, 9, 10, 11, 43, 44, 45, 46, 47, 48, 49, 50, 51, 52, 53, 54, 55, 56, 57, 58, 59, 60, 61, 62, 63, 64, 65, 66, 67, 68, 69, 70, 71, 72, 73, 74, 75, 76, 77, 78, 79, 80, 81, 82, 83, 84, 85, 86, 87, 88, 89, 90, 91, 92, 93, 94, 95, 96, 97, 98, 99, 100] (fun vi L => ∃ j : Nat, vi = [.int .i64 (j : Int)] ∧ L = [K.row (.slice A1 (offsR kind base most hs rs u v).length c1) 3 1 (offsR kind base most hs rs u v).length ((offsR kind base most hs rs u v).flatMap K.eI), K.blk b5 27 [.int .i64 u, .int .i64 v], K.blk b3 56 [.int .u8 x0, .int .u8 x1], K.blk b2 25 [.int .i64 kind, .int .i64 base, .int .i64 most, .slice A hs.length c, .slice B rs.length d]] ∧ j ≤ rs.length) (fun vi => rs.length - (intOf (K.nth vi 0)).toNat) ?_ ?_
    · exact ⟨0, rfl, rfl, Nat.zero_le _⟩
    · intro vi vr L hJ
      obtain ⟨j, rfl, rfl, hjn⟩ := hJ
      try dsimp only [K.setd, K.setn, K.ev, K.nth, K.over, K.cl, K.eI, K.eP, K.eT, K.setM, K.setF, List.map, List.append, List.drop, List.take]
      refine K.seq ?_
      refine K.seq ?_
      refine K.region_lit ?_
      refine K.seq_pure (K.move) rfl ?_
      dsimp only [K.setd, K.setn, K.ev, K.nth]
      refine K.seq_pure (K.move) rfl ?_
      dsimp only [K.setd, K.setn, K.ev, K.nth]
      refine K.seq_pure (K.len_sl sl_22 rfl) rfl ?_
      dsimp only [K.setd, K.setn, K.ev, K.nth]
      refine K.seq_pure (K.lss rfl rfl) rfl ?_
      dsimp only [K.setd, K.setn, K.ev, K.nth]
      refine K.seq_nil ?_
      refine K.norm_then ?_
      refine K.cond rfl (fun ht46 => ?_) (fun ht46 => ?_)
      · try replace ht46 := of_decide_eq_true ht46
        have hj : j < rs.length := by omega
        have hrd := g.road4 hj
        have q1 := g.bdh (rs.getD j default).1.toNat
        have q2 := g.bdh (rs.getD j default).2.toNat
        have q5 : -9000 ≤ (hs.getD (rs.getD j default).2.toNat default - hs.getD (rs.getD j default).1.toNat default) ∧ (hs.getD (rs.getD j default).2.toNat default - hs.getD (rs.getD j default).1.toNat default) ≤ 9000 := by omega
        have q9 := mul_bd (A := 30) (B := 9000) (show 0 ≤ u by omega) (show u ≤ 30 by omega) (show 0 ≤ max (hs.getD (rs.getD j default).2.toNat default - hs.getD (rs.getD j default).1.toNat default) (-(hs.getD (rs.getD j default).2.toNat default - hs.getD (rs.getD j default).1.toNat default)) by omega) (show max (hs.getD (rs.getD j default).2.toNat default - hs.getD (rs.getD j default).1.toNat default) (-(hs.getD (rs.getD j default).2.toNat default - hs.getD (rs.getD j default).1.toNat default)) ≤ 9000 by omega)
        have hRj : (offsR kind base most hs rs u v).getD j default = offS u v (riseS hs (rs.getD j default)) (riseS (cuts kind base u v hs) (rs.getD j default)) := by rw [hl0]; exact offs_at hj
        have hoff := off_bd g hp hrd
        rw [← hRj] at hoff
        refine K.skip ?_
        refine K.norm_then ?_
        refine K.seq ?_
        refine K.block ?_
        refine K.seq ?_
        refine K.draw_L [] Try_mixed ?_
        refine K.d_pure 0 rfl (K.fieldAddr_lit fo_25_3 rfl) (by kernel_rfl) rfl ?_
        dsimp only [K.setd, K.setn, K.ev, K.nth]
        refine K.d_mem 1 rfl (K.load1_own one_22 rfl (List.Mem.tail _ (List.Mem.tail _ (List.Mem.tail _ (List.Mem.head _)))) rfl) (by intro c hc; first | exact hc | (repeat (first | exact hc | exact List.mem_of_mem_drop hc | apply List.mem_cons_of_mem))) (by kernel_rfl) (by kernel_rfl) rfl ?_
        try dsimp only [K.setd, K.setn, K.ev, K.nth, K.over, K.cl, K.eI, K.eP, K.eT, List.map, List.append, List.drop, List.take]
        refine K.d_pure 2 rfl (K.fieldAddr_lit fo_25_4 rfl) (by kernel_rfl) rfl ?_
        dsimp only [K.setd, K.setn, K.ev, K.nth]
        refine K.d_mem 3 rfl (K.load1_own one_23 rfl (List.Mem.tail _ (List.Mem.tail _ (List.Mem.tail _ (List.Mem.head _)))) rfl) (by intro c hc; first | exact hc | (repeat (first | exact hc | exact List.mem_of_mem_drop hc | apply List.mem_cons_of_mem))) (by kernel_rfl) (by kernel_rfl) rfl ?_
        try dsimp only [K.setd, K.setn, K.ev, K.nth, K.over, K.cl, K.eI, K.eP, K.eT, List.map, List.append, List.drop, List.take]
        refine K.d_pure 4 rfl (K.move) (by kernel_rfl) rfl ?_
        dsimp only [K.setd, K.setn, K.ev, K.nth]
        refine K.d_ix (M := []) 5 _ rfl hR.sl sl_23 rfl rfl rfl (by omega) (by kernel_rfl) rfl ?_
        intro p54 hp54
        try dsimp only [K.setd, K.setn, K.ev, K.nth, K.over, K.cl, K.eI, K.eP, K.eT, List.map, List.append, List.drop, List.take]
        refine K.d_pure 6 rfl (K.fieldAddr fo_79_1 rfl) (by kernel_rfl) rfl ?_
        dsimp only [K.setd, K.setn, K.ev, K.nth]
        refine K.d_mem 7 rfl (K.load1 one_3 rfl ((K.PtrL.fld hp54 (k := 1)).any)) (by intro c hc; first | exact hc | (repeat (first | exact hc | exact List.mem_of_mem_drop hc | apply List.mem_cons_of_mem))) (by kernel_rfl) (by kernel_rfl) rfl ?_
        try dsimp only [K.setd, K.setn, K.ev, K.nth, K.over, K.cl, K.eI, K.eP, K.eT, List.map, List.append, List.drop, List.take]
        refine K.d_ix (M := []) 8 (rs.getD j default).2.toNat rfl hH.sl sl_22 rfl rfl (by omega) (by omega) (by kernel_rfl) rfl ?_
        intro p57 hp57
        try dsimp only [K.setd, K.setn, K.ev, K.nth, K.over, K.cl, K.eI, K.eP, K.eT, List.map, List.append, List.drop, List.take]
        refine K.d_mem 9 rfl (K.load1 one_3 rfl (hp57.any)) (by intro c hc; first | exact hc | (repeat (first | exact hc | exact List.mem_of_mem_drop hc | apply List.mem_cons_of_mem))) (by kernel_rfl) (by kernel_rfl) rfl ?_
        try dsimp only [K.setd, K.setn, K.ev, K.nth, K.over, K.cl, K.eI, K.eP, K.eT, List.map, List.append, List.drop, List.take]
        refine K.d_pure 10 rfl (K.fieldAddr_lit fo_25_3 rfl) (by kernel_rfl) rfl ?_
        dsimp only [K.setd, K.setn, K.ev, K.nth]
        refine K.d_mem 11 rfl (K.load1_own one_22 rfl (List.Mem.tail _ (List.Mem.tail _ (List.Mem.tail _ (List.Mem.head _)))) rfl) (by intro c hc; first | exact hc | (repeat (first | exact hc | exact List.mem_of_mem_drop hc | apply List.mem_cons_of_mem))) (by kernel_rfl) (by kernel_rfl) rfl ?_
        try dsimp only [K.setd, K.setn, K.ev, K.nth, K.over, K.cl, K.eI, K.eP, K.eT, List.map, List.append, List.drop, List.take]
        refine K.d_pure 12 rfl (K.fieldAddr_lit fo_25_4 rfl) (by kernel_rfl) rfl ?_
        dsimp only [K.setd, K.setn, K.ev, K.nth]
        refine K.d_mem 13 rfl (K.load1_own one_23 rfl (List.Mem.tail _ (List.Mem.tail _ (List.Mem.tail _ (List.Mem.head _)))) rfl) (by intro c hc; first | exact hc | (repeat (first | exact hc | exact List.mem_of_mem_drop hc | apply List.mem_cons_of_mem))) (by kernel_rfl) (by kernel_rfl) rfl ?_
        try dsimp only [K.setd, K.setn, K.ev, K.nth, K.over, K.cl, K.eI, K.eP, K.eT, List.map, List.append, List.drop, List.take]
        refine K.d_pure 14 rfl (K.move) (by kernel_rfl) rfl ?_
        dsimp only [K.setd, K.setn, K.ev, K.nth]
        refine K.d_ix (M := []) 15 _ rfl hR.sl sl_23 rfl rfl rfl (by omega) (by kernel_rfl) rfl ?_
        intro p64 hp64
        try dsimp only [K.setd, K.setn, K.ev, K.nth, K.over, K.cl, K.eI, K.eP, K.eT, List.map, List.append, List.drop, List.take]
        refine K.d_pure 16 rfl (K.fieldAddr fo_79_0 rfl) (by kernel_rfl) rfl ?_
        dsimp only [K.setd, K.setn, K.ev, K.nth]
        refine K.d_mem 17 rfl (K.load1 one_3 rfl ((K.PtrL.fld hp64 (k := 0)).any)) (by intro c hc; first | exact hc | (repeat (first | exact hc | exact List.mem_of_mem_drop hc | apply List.mem_cons_of_mem))) (by kernel_rfl) (by kernel_rfl) rfl ?_
        try dsimp only [K.setd, K.setn, K.ev, K.nth, K.over, K.cl, K.eI, K.eP, K.eT, List.map, List.append, List.drop, List.take]
        refine K.d_ix (M := []) 18 (rs.getD j default).1.toNat rfl hH.sl sl_22 rfl rfl (by omega) (by omega) (by kernel_rfl) rfl ?_
        intro p67 hp67
        try dsimp only [K.setd, K.setn, K.ev, K.nth, K.over, K.cl, K.eI, K.eP, K.eT, List.map, List.append, List.drop, List.take]
        refine K.d_mem 19 rfl (K.load1 one_3 rfl (hp67.any)) (by intro c hc; first | exact hc | (repeat (first | exact hc | exact List.mem_of_mem_drop hc | apply List.mem_cons_of_mem))) (by kernel_rfl) (by kernel_rfl) rfl ?_
        try dsimp only [K.setd, K.setn, K.ev, K.nth, K.over, K.cl, K.eI, K.eP, K.eT, List.map, List.append, List.drop, List.take]
        refine K.d_pure 20 rfl (K.sub_i64 rfl rfl (by omega)) (by kernel_rfl) rfl ?_
        dsimp only [K.setd, K.setn, K.ev, K.nth]
        refine K.d_pure 21 rfl (K.assign) (by kernel_rfl) rfl ?_
        dsimp only [K.setd, K.setn, K.ev, K.nth]
        refine K.d_done (by kernel_rfl) ?_
        refine K.norm_then ?_
        refine K.seq ?_
        refine K.region_lit ?_
        refine K.seq_pure (K.fieldAddr_lit fo_27_0 rfl) rfl ?_
        dsimp only [K.setd, K.setn, K.ev, K.nth]
        refine K.seq_sil (K.load1_own one_3 rfl (List.Mem.tail _ (List.Mem.head _)) rfl) rfl ?_
        try dsimp only [K.setd, K.setn, K.ev, K.nth, K.over, K.cl, K.eI, K.eP, K.eT, List.map, List.append, List.drop, List.take]
        refine K.seq_pure (K.move) rfl ?_
        dsimp only [K.setd, K.setn, K.ev, K.nth]
        refine K.seq_pure (K.move) rfl ?_
        dsimp only [K.setd, K.setn, K.ev, K.nth]
        refine K.seq_pure (K.neg_i64 rfl (by omega)) rfl ?_
        dsimp only [K.setd, K.setn, K.ev, K.nth]
        refine K.seq_pure (K.max_int rfl rfl) rfl ?_
        dsimp only [K.setd, K.setn, K.ev, K.nth]
        refine K.seq_pure (K.mul_i64 rfl rfl (by omega)) rfl ?_
        dsimp only [K.setd, K.setn, K.ev, K.nth]
        refine K.seq_pure (K.assign) rfl ?_
        dsimp only [K.setd, K.setn, K.ev, K.nth]
        refine K.seq_nil ?_
        refine K.norm_then ?_
        refine K.seq ?_
        refine K.region_lit ?_
        refine K.seq_pure (K.assign) rfl ?_
        dsimp only [K.setd, K.setn, K.ev, K.nth]
        refine K.seq_nil ?_
        refine K.norm_then ?_
        refine K.seq ?_
        refine K.seq ?_
        refine K.region_lit ?_
        refine K.seq_pure (K.move) rfl ?_
        dsimp only [K.setd, K.setn, K.ev, K.nth]
        refine K.seq_pure (K.gtr rfl rfl) rfl ?_
        dsimp only [K.setd, K.setn, K.ev, K.nth]
        refine K.seq_nil ?_
        refine K.norm_then ?_
        refine K.cond rfl (fun ht78 => ?_) (fun ht78 => ?_)
        · try replace ht78 := of_decide_eq_true ht78
          have hmm : (offsR kind base most hs rs u v).getD j default ≤ (1000 * (v - 1) + u * max (hs.getD (rs.getD j default).2.toNat default - hs.getD (rs.getD j default).1.toNat default) (-(hs.getD (rs.getD j default).2.toNat default - hs.getD (rs.getD j default).1.toNat default)) - 1) / (u * max (hs.getD (rs.getD j default).2.toNat default - hs.getD (rs.getD j default).1.toNat default) (-(hs.getD (rs.getD j default).2.toNat default - hs.getD (rs.getD j default).1.toNat default))) := by
            have h := hoff.2
            unfold mostS at h
            rw [if_pos ht78] at h
            exact h
          refine K.region_lit ?_
          refine K.seq_pure (K.fieldAddr_lit fo_27_1 rfl) rfl ?_
          dsimp only [K.setd, K.setn, K.ev, K.nth]
          refine K.seq_sil (K.load1_own one_3 rfl (List.Mem.tail _ (List.Mem.head _)) rfl) rfl ?_
          try dsimp only [K.setd, K.setn, K.ev, K.nth, K.over, K.cl, K.eI, K.eP, K.eT, List.map, List.append, List.drop, List.take]
          refine K.seq_pure (K.sub_i64 rfl rfl (by omega)) rfl ?_
          dsimp only [K.setd, K.setn, K.ev, K.nth]
          refine K.seq_pure (K.mul_i64 rfl rfl (by omega)) rfl ?_
          dsimp only [K.setd, K.setn, K.ev, K.nth]
          refine K.seq_pure (K.move) rfl ?_
          dsimp only [K.setd, K.setn, K.ev, K.nth]
          refine K.seq_pure (K.add_i64 rfl rfl (by omega)) rfl ?_
          dsimp only [K.setd, K.setn, K.ev, K.nth]
          refine K.seq_pure (K.sub_i64 rfl rfl (by omega)) rfl ?_
          dsimp only [K.setd, K.setn, K.ev, K.nth]
          refine K.seq_pure (K.move) rfl ?_
          dsimp only [K.setd, K.setn, K.ev, K.nth]
          refine K.seq_pure (K.quo_i64 rfl rfl (by omega) (by omega) (by omega)) rfl ?_
          dsimp only [K.setd, K.setn, K.ev, K.nth]
          refine K.seq_pure (K.assign) rfl ?_
          dsimp only [K.setd, K.setn, K.ev, K.nth]
          refine K.seq_nil ?_
          refine K.norm_then ?_
          refine K.seq ?_
          refine K.region_lit ?_
          refine K.seq_pure (K.move) rfl ?_
          dsimp only [K.setd, K.setn, K.ev, K.nth]
          refine K.seq_pure (K.move) rfl ?_
          dsimp only [K.setd, K.setn, K.ev, K.nth]
          refine K.seq_ix (M := [_]) _ (K.Sl.own (t := 3) (c := c1) (size := 1) (e := K.eI) hA1 (fun _ => rfl)) sl_22 rfl rfl rfl (by omega) rfl ?_
          intro p90 hp90
          try dsimp only [K.setd, K.setn, K.ev, K.nth, K.over, K.cl, K.eI, K.eP, K.eT, List.map, List.append, List.drop, List.take]
          refine K.seq_sil (K.load1 one_3 rfl (hp90.at1 (List.Mem.head _))) rfl ?_
          try dsimp only [K.setd, K.setn, K.ev, K.nth, K.over, K.cl, K.eI, K.eP, K.eT, List.map, List.append, List.drop, List.take]
          refine K.seq_pure (K.Pure.eq (K.lss rfl rfl) (show _ = Value.bool false from congrArg Value.bool (decide_eq_false (by omega)))) rfl ?_
          dsimp only [K.setd, K.setn, K.ev, K.nth]
          refine K.seq_pure (K.move) rfl ?_
          dsimp only [K.setd, K.setn, K.ev, K.nth]
          refine K.seq_pure (K.move) rfl ?_
          dsimp only [K.setd, K.setn, K.ev, K.nth]
          refine K.seq_pure (K.move) rfl ?_
          dsimp only [K.setd, K.setn, K.ev, K.nth]
          refine K.seq_ix (M := [_]) _ (K.Sl.own (t := 3) (c := c1) (size := 1) (e := K.eI) hA1 (fun _ => rfl)) sl_22 rfl rfl rfl (by omega) rfl ?_
          intro p96 hp96
          try dsimp only [K.setd, K.setn, K.ev, K.nth, K.over, K.cl, K.eI, K.eP, K.eT, List.map, List.append, List.drop, List.take]
          refine K.seq_sil (K.load1 one_3 rfl (hp96.at1 (List.Mem.head _))) rfl ?_
          try dsimp only [K.setd, K.setn, K.ev, K.nth, K.over, K.cl, K.eI, K.eP, K.eT, List.map, List.append, List.drop, List.take]
          refine K.seq_pure (K.move) rfl ?_
          dsimp only [K.setd, K.setn, K.ev, K.nth]
          refine K.seq_pure (K.Pure.eq (K.gtr rfl rfl) (show _ = Value.bool false from congrArg Value.bool (decide_eq_false (by omega)))) rfl ?_
          dsimp only [K.setd, K.setn, K.ev, K.nth]
          refine K.seq_pure (K.pick_f rfl) rfl ?_
          dsimp only [K.setd, K.setn, K.ev, K.nth]
          refine K.seq_nil ?_
          refine K.norm_then ?_
          refine K.cond_false rfl ?_
          refine K.skip ?_
          refine K.norm_block ?_
          refine K.norm_then ?_
          refine K.region_lit ?_
          refine K.seq_pure (K.move) rfl ?_
          dsimp only [K.setd, K.setn, K.ev, K.nth]
          refine K.seq_pure (K.add_i64 rfl rfl (by omega)) rfl ?_
          dsimp only [K.setd, K.setn, K.ev, K.nth]
          refine K.seq_pure (K.assign) rfl ?_
          dsimp only [K.setd, K.setn, K.ev, K.nth]
          refine K.seq_nil ?_
          exact K.round_endW (L'' := [K.row (.slice A1 (offsR kind base most hs rs u v).length c1) 3 1 (offsR kind base most hs rs u v).length ((offsR kind base most hs rs u v).flatMap K.eI), K.blk b5 27 [.int .i64 u, .int .i64 v], K.blk b3 56 [.int .u8 x0, .int .u8 x1], K.blk b2 25 [.int .i64 kind, .int .i64 base, .int .i64 most, .slice A hs.length c, .slice B rs.length d]]) [.int .i64 ((j : Int) + 1)] ⟨j + 1, rfl, rfl, by omega⟩ (by simp [K.nth, intOf]; omega) (by (repeat (first | exact List.Sublist.refl _ | apply List.Sublist.cons)); done) (by kernel_rfl)
        · try replace ht78 := of_decide_eq_false ht78
          have hmm : (offsR kind base most hs rs u v).getD j default ≤ 0 := by
            have h := hoff.2
            unfold mostS at h
            rw [if_neg ht78] at h
            exact h
          refine K.skip ?_
          refine K.norm_then ?_
          refine K.seq ?_
          refine K.region_lit ?_
          refine K.seq_pure (K.move) rfl ?_
          dsimp only [K.setd, K.setn, K.ev, K.nth]
          refine K.seq_pure (K.move) rfl ?_
          dsimp only [K.setd, K.setn, K.ev, K.nth]
          refine K.seq_ix (M := [_]) _ (K.Sl.own (t := 3) (c := c1) (size := 1) (e := K.eI) hA1 (fun _ => rfl)) sl_22 rfl rfl rfl (by omega) rfl ?_
          intro p90 hp90
          try dsimp only [K.setd, K.setn, K.ev, K.nth, K.over, K.cl, K.eI, K.eP, K.eT, List.map, List.append, List.drop, List.take]
          refine K.seq_sil (K.load1 one_3 rfl (hp90.at1 (List.Mem.head _))) rfl ?_
          try dsimp only [K.setd, K.setn, K.ev, K.nth, K.over, K.cl, K.eI, K.eP, K.eT, List.map, List.append, List.drop, List.take]
          refine K.seq_pure (K.Pure.eq (K.lss rfl rfl) (show _ = Value.bool false from congrArg Value.bool (decide_eq_false (by omega)))) rfl ?_
          dsimp only [K.setd, K.setn, K.ev, K.nth]
          refine K.seq_pure (K.move) rfl ?_
          dsimp only [K.setd, K.setn, K.ev, K.nth]
          refine K.seq_pure (K.move) rfl ?_
          dsimp only [K.setd, K.setn, K.ev, K.nth]
          refine K.seq_pure (K.move) rfl ?_
          dsimp only [K.setd, K.setn, K.ev, K.nth]
          refine K.seq_ix (M := [_]) _ (K.Sl.own (t := 3) (c := c1) (size := 1) (e := K.eI) hA1 (fun _ => rfl)) sl_22 rfl rfl rfl (by omega) rfl ?_
          intro p96 hp96
          try dsimp only [K.setd, K.setn, K.ev, K.nth, K.over, K.cl, K.eI, K.eP, K.eT, List.map, List.append, List.drop, List.take]
          refine K.seq_sil (K.load1 one_3 rfl (hp96.at1 (List.Mem.head _))) rfl ?_
          try dsimp only [K.setd, K.setn, K.ev, K.nth, K.over, K.cl, K.eI, K.eP, K.eT, List.map, List.append, List.drop, List.take]
          refine K.seq_pure (K.move) rfl ?_
          dsimp only [K.setd, K.setn, K.ev, K.nth]
          refine K.seq_pure (K.Pure.eq (K.gtr rfl rfl) (show _ = Value.bool false from congrArg Value.bool (decide_eq_false (by omega)))) rfl ?_
          dsimp only [K.setd, K.setn, K.ev, K.nth]
          refine K.seq_pure (K.pick_f rfl) rfl ?_
          dsimp only [K.setd, K.setn, K.ev, K.nth]
          refine K.seq_nil ?_
          refine K.norm_then ?_
          refine K.cond_false rfl ?_
          refine K.skip ?_
          refine K.norm_block ?_
          refine K.norm_then ?_
          refine K.region_lit ?_
          refine K.seq_pure (K.move) rfl ?_
          dsimp only [K.setd, K.setn, K.ev, K.nth]
          refine K.seq_pure (K.add_i64 rfl rfl (by omega)) rfl ?_
          dsimp only [K.setd, K.setn, K.ev, K.nth]
          refine K.seq_pure (K.assign) rfl ?_
          dsimp only [K.setd, K.setn, K.ev, K.nth]
          refine K.seq_nil ?_
          exact K.round_endW (L'' := [K.row (.slice A1 (offsR kind base most hs rs u v).length c1) 3 1 (offsR kind base most hs rs u v).length ((offsR kind base most hs rs u v).flatMap K.eI), K.blk b5 27 [.int .i64 u, .int .i64 v], K.blk b3 56 [.int .u8 x0, .int .u8 x1], K.blk b2 25 [.int .i64 kind, .int .i64 base, .int .i64 most, .slice A hs.length c, .slice B rs.length d]]) [.int .i64 ((j : Int) + 1)] ⟨j + 1, rfl, rfl, by omega⟩ (by simp [K.nth, intOf]; omega) (by (repeat (first | exact List.Sublist.refl _ | apply List.Sublist.cons)); done) (by kernel_rfl)
      · try replace ht46 := of_decide_eq_false ht46
        refine K.exit ?_
        refine K.exit_then ?_
        refine K.exit_then ?_
        refine K.exit_here ?_
        refine K.norm_then ?_
        refine K.seq ?_
        refine K.region_lit ?_
        refine K.seq_call (K.call_g cal_26 (fun F w hF hw => c26 w)) rfl ?_
        try dsimp only [K.setd, K.setn, K.ev, K.nth, K.over, K.cl, K.eI, K.eP, K.eT, List.map, List.append, List.drop, List.take]
        refine K.seq_pure (K.assign) rfl ?_
        dsimp only [K.setd, K.setn, K.ev, K.nth]
        refine K.seq_nil ?_
        refine K.norm_then ?_
        refine K.ret ?_
        refine K.end_ret (fun w _ => K.res_tmp rfl w) ?_
        exact K.gives rfl

set_option maxRecDepth 100000 in
theorem c7 {kind base most : Int} {A B : Option Addr} {c d : Nat} {hs : List Int} {rs : List (Int × Int)} {lim x0 x1 : Int} {w : World} (hH : K.Rd w A 1 K.eI hs) (hR : K.Rd w B 2 K.eP rs) (hn : hs.length ≤ 4611686018427387904) (hm : rs.length ≤ 4611686018427387904) (hlim : 0 ≤ lim ∧ lim ≤ 65535) (hx0 : 0 ≤ x0 ∧ x0 ≤ 255) (hx1 : 0 ≤ x1 ∧ x1 ≤ 255) :
    Calls Try.prog 7 [.agg #[.int .i64 kind, .int .i64 base, .int .i64 most, .slice A hs.length c, .slice B rs.length d], .int .u16 lim, .agg #[.int .u8 x0, .int .u8 x1]].toArray w (K.Gives (.bool true) w) := by
  refine K.enter (args := [.agg #[.int .i64 kind, .int .i64 base, .int .i64 most, .slice A hs.length c, .slice B rs.length d], .int .u16 lim, .agg #[.int .u8 x0, .int .u8 x1]]) Try.func7 rfl (n := 121) rfl ?_
  simp only [List.replicate, List.cons_append, List.nil_append]
  refine K.seq ?_
  refine K.region_lit ?_
  refine K.seq_new (K.box) rfl ?_
  intro b3
  try dsimp only [K.setd, K.setn, K.ev, K.nth, K.over, K.cl, K.eI, K.eP, K.eT, List.map, List.append, List.drop, List.take]
  refine K.seq_new (K.box) rfl ?_
  intro b5
  try dsimp only [K.setd, K.setn, K.ev, K.nth, K.over, K.cl, K.eI, K.eP, K.eT, List.map, List.append, List.drop, List.take]
  refine K.seq_pure (K.assign) rfl ?_
  dsimp only [K.setd, K.setn, K.ev, K.nth]
  refine K.seq_nil ?_
  refine K.norm_then ?_
  refine K.seq ?_
  refine K.seq ?_
  refine K.region_lit ?_
  refine K.seq_sil (K.loadA_own ag_25 rfl (List.Mem.tail _ (List.Mem.head _)) rfl) rfl ?_
  try dsimp only [K.setd, K.setn, K.ev, K.nth, K.over, K.cl, K.eI, K.eP, K.eT, List.map, List.append, List.drop, List.take]
  refine K.seq_call (K.call_g cal_39 (fun F w hF hw => c39 (hH.pass hw) (hR.pass hw) hn hm)) rfl ?_
  try dsimp only [K.setd, K.setn, K.ev, K.nth, K.over, K.cl, K.eI, K.eP, K.eT, List.map, List.append, List.drop, List.take]
  refine K.seq_pure (K.not_d rfl) rfl ?_
  dsimp only [K.setd, K.setn, K.ev, K.nth]
  refine K.seq_nil ?_
  refine K.norm_then ?_
  refine K.cond rfl (fun ht20 => ?_) (fun ht20 => ?_)
  · try replace ht20 := of_decide_eq_true ht20
    refine K.seq ?_
    refine K.region_lit ?_
    refine K.seq_sil (K.loadA_own ag_25 rfl (List.Mem.tail _ (List.Mem.head _)) rfl) rfl ?_
    try dsimp only [K.setd, K.setn, K.ev, K.nth, K.over, K.cl, K.eI, K.eP, K.eT, List.map, List.append, List.drop, List.take]
    refine K.seq_call (K.call_g cal_27 (fun F w hF hw => c27 (limit := 0) (hH.pass hw) (hR.pass hw) hn hm)) rfl ?_
    try dsimp only [K.setd, K.setn, K.ev, K.nth, K.over, K.cl, K.eI, K.eP, K.eT, List.map, List.append, List.drop, List.take]
    refine K.seq_pure (K.move) rfl ?_
    dsimp only [K.setd, K.setn, K.ev, K.nth]
    refine K.seq_pure (K.extract rfl rfl) rfl ?_
    dsimp only [K.setd, K.setn, K.ev, K.nth]
    refine K.seq_pure (K.extract rfl rfl) rfl ?_
    dsimp only [K.setd, K.setn, K.ev, K.nth]
    refine K.seq_new (K.alloc zr_27) rfl ?_
    intro b7
    try dsimp only [K.setd, K.setn, K.ev, K.nth, K.over, K.cl, K.eI, K.eP, K.eT, List.map, List.append, List.drop, List.take]
    refine K.seq_st (K.store_all sz_27 rfl rfl rfl rfl (K.Rep.here)) rfl ?_
    try dsimp only [K.setd, K.setn, K.ev, K.nth, K.over, K.cl, K.eI, K.eP, K.eT, List.map, List.append, List.drop, List.take]
    refine K.seq_pure (K.assign) rfl ?_
    dsimp only [K.setd, K.setn, K.ev, K.nth]
    refine K.seq_nil ?_
    refine K.norm_then ?_
    refine K.seq ?_
    refine K.region_lit ?_
    refine K.seq_pure (K.move) rfl ?_
    dsimp only [K.setd, K.setn, K.ev, K.nth]
    refine K.seq_pure (K.Pure.eq (K.neq rfl rfl) (show _ = Value.bool true from congrArg Value.bool (decide_eq_true (by rw [grt_bad ht20]; exact ht20)))) rfl ?_
    dsimp only [K.setd, K.setn, K.ev, K.nth]
    refine K.seq_pure (K.move) rfl ?_
    dsimp only [K.setd, K.setn, K.ev, K.nth]
    refine K.seq_call (K.call_g cal_26 (fun F w hF hw => c26 w)) rfl ?_
    try dsimp only [K.setd, K.setn, K.ev, K.nth, K.over, K.cl, K.eI, K.eP, K.eT, List.map, List.append, List.drop, List.take]
    refine K.seq_pure (K.pick_t rfl) rfl ?_
    dsimp only [K.setd, K.setn, K.ev, K.nth]
    refine K.seq_pure (K.assign) rfl ?_
    dsimp only [K.setd, K.setn, K.ev, K.nth]
    refine K.seq_nil ?_
    refine K.norm_then ?_
    refine K.ret ?_
    refine K.ret_then ?_
    refine K.end_ret (fun w _ => K.res_tmp rfl w) ?_
    exact K.gives rfl
  · try replace ht20 := of_decide_eq_false ht20
    have hc0 : (chk kind base most hs rs).2.2 = 0 := Decidable.not_not.1 ht20
    have g := chk_good hc0
    have g1 := g.k
    have g2 := g.n
    have g3 := g.r
    have g4 := g.b
    have g5 := g.m
    refine K.skip ?_
    refine K.norm_then ?_
    refine K.seq ?_
    refine K.region_lit ?_
    refine K.seq_sil (K.loadA_own ag_25 rfl (List.Mem.tail _ (List.Mem.head _)) rfl) rfl ?_
    try dsimp only [K.setd, K.setn, K.ev, K.nth, K.over, K.cl, K.eI, K.eP, K.eT, List.map, List.append, List.drop, List.take]
    refine K.seq_pure (K.move) rfl ?_
    dsimp only [K.setd, K.setn, K.ev, K.nth]
    refine K.seq_pure (K.Pure.eq (K.conv_int ik_55 ik_3 rfl) (by rw [wrap16 hlim])) rfl ?_
    try dsimp only [K.setd, K.setn, K.ev, K.nth, K.over, K.cl, K.eI, K.eP, K.eT, List.map, List.append, List.drop, List.take]
    refine K.seq_call (K.call_g cal_27 (fun F w hF hw => c27 (limit := lim) (hH.pass hw) (hR.pass hw) hn hm)) rfl ?_
    try dsimp only [K.setd, K.setn, K.ev, K.nth, K.over, K.cl, K.eI, K.eP, K.eT, List.map, List.append, List.drop, List.take]
    refine K.seq_pure (K.move) rfl ?_
    dsimp only [K.setd, K.setn, K.ev, K.nth]
    refine K.seq_pure (K.extract rfl rfl) rfl ?_
    dsimp only [K.setd, K.setn, K.ev, K.nth]
    refine K.seq_pure (K.extract rfl rfl) rfl ?_
    dsimp only [K.setd, K.setn, K.ev, K.nth]
    refine K.seq_new (K.alloc zr_27) rfl ?_
    intro b9
    try dsimp only [K.setd, K.setn, K.ev, K.nth, K.over, K.cl, K.eI, K.eP, K.eT, List.map, List.append, List.drop, List.take]
    refine K.seq_st (K.store_all sz_27 rfl rfl rfl rfl (K.Rep.here)) rfl ?_
    try dsimp only [K.setd, K.setn, K.ev, K.nth, K.over, K.cl, K.eI, K.eP, K.eT, List.map, List.append, List.drop, List.take]
    refine K.seq_pure (K.assign) rfl ?_
    dsimp only [K.setd, K.setn, K.ev, K.nth]
    refine K.seq_nil ?_
    refine K.norm_then ?_
    refine K.seq ?_
    refine K.region_lit ?_
    refine K.seq_sil (K.loadA_own ag_56 rfl (List.Mem.tail _ (List.Mem.head _)) rfl) rfl ?_
    try dsimp only [K.setd, K.setn, K.ev, K.nth, K.over, K.cl, K.eI, K.eP, K.eT, List.map, List.append, List.drop, List.take]
    refine K.seq_loud (K.call_f cal_40 (fun F w hF hw => c40 hx0 hx1 w)) rfl ?_
    rintro ⟨u, v⟩ hsc
    try dsimp only [K.setd, K.setn, K.ev, K.nth, K.over, K.cl, K.eI, K.eP, K.eT, List.map, List.append, List.drop, List.take]
    refine K.seq_new (K.alloc zr_27) rfl ?_
    intro b11
    try dsimp only [K.setd, K.setn, K.ev, K.nth, K.over, K.cl, K.eI, K.eP, K.eT, List.map, List.append, List.drop, List.take]
    refine K.seq_st (K.store_all sz_27 rfl rfl rfl rfl (K.Rep.here)) rfl ?_
    try dsimp only [K.setd, K.setn, K.ev, K.nth, K.over, K.cl, K.eI, K.eP, K.eT, List.map, List.append, List.drop, List.take]
    refine K.seq_nil ?_
    refine K.norm_then ?_
    refine K.seq ?_
    refine K.region_lit ?_
    refine K.seq_sil (K.loadA_own ag_25 rfl (List.Mem.tail _ (List.Mem.tail _ (List.Mem.tail _ (List.Mem.head _)))) rfl) rfl ?_
    try dsimp only [K.setd, K.setn, K.ev, K.nth, K.over, K.cl, K.eI, K.eP, K.eT, List.map, List.append, List.drop, List.take]
    refine K.seq_sil (K.loadA_own ag_27 rfl (List.Mem.head _) rfl) rfl ?_
    try dsimp only [K.setd, K.setn, K.ev, K.nth, K.over, K.cl, K.eI, K.eP, K.eT, List.map, List.append, List.drop, List.take]
    refine K.seq_call (K.call_g cal_41 (fun F w hF hw => c41g (u := u) (v := v) (hH.pass hw) (hR.pass hw) g hsc)) rfl ?_
    try dsimp only [K.setd, K.setn, K.ev, K.nth, K.over, K.cl, K.eI, K.eP, K.eT, List.map, List.append, List.drop, List.take]
    refine K.seq_pure (K.move) rfl ?_
    dsimp only [K.setd, K.setn, K.ev, K.nth]
    refine K.seq_pure (K.extract rfl rfl) rfl ?_
    dsimp only [K.setd, K.setn, K.ev, K.nth]
    refine K.seq_pure (K.extract rfl rfl) rfl ?_
    dsimp only [K.setd, K.setn, K.ev, K.nth]
    refine K.seq_pure (K.assign) rfl ?_
    dsimp only [K.setd, K.setn, K.ev, K.nth]
    refine K.seq_pure (K.assign) rfl ?_
    dsimp only [K.setd, K.setn, K.ev, K.nth]
    refine K.seq_nil ?_
    refine K.norm_then ?_
    refine K.seq ?_
    refine K.region_lit ?_
    refine K.seq_sil (K.loadA_own ag_25 rfl (List.Mem.tail _ (List.Mem.tail _ (List.Mem.tail _ (List.Mem.head _)))) rfl) rfl ?_
    try dsimp only [K.setd, K.setn, K.ev, K.nth, K.over, K.cl, K.eI, K.eP, K.eT, List.map, List.append, List.drop, List.take]
    refine K.seq_sil (K.loadA_own ag_27 rfl (List.Mem.head _) rfl) rfl ?_
    try dsimp only [K.setd, K.setn, K.ev, K.nth, K.over, K.cl, K.eI, K.eP, K.eT, List.map, List.append, List.drop, List.take]
    refine K.seq_call (K.call_g cal_42 (fun F w hF hw => c42g (u := u) (v := v) (hH.pass hw) (hR.pass hw) g hsc)) rfl ?_
    try dsimp only [K.setd, K.setn, K.ev, K.nth, K.over, K.cl, K.eI, K.eP, K.eT, List.map, List.append, List.drop, List.take]
    refine K.seq_pure (K.move) rfl ?_
    dsimp only [K.setd, K.setn, K.ev, K.nth]
    refine K.seq_pure (K.extract rfl rfl) rfl ?_
    dsimp only [K.setd, K.setn, K.ev, K.nth]
    refine K.seq_pure (K.extract rfl rfl) rfl ?_
    dsimp only [K.setd, K.setn, K.ev, K.nth]
    refine K.seq_pure (K.assign) rfl ?_
    dsimp only [K.setd, K.setn, K.ev, K.nth]
    refine K.seq_pure (K.assign) rfl ?_
    dsimp only [K.setd, K.setn, K.ev, K.nth]
    refine K.seq_nil ?_
    refine K.norm_then ?_
    refine K.seq ?_
    refine K.seq ?_
    refine K.region_lit ?_
    refine K.seq_pure (K.move) rfl ?_
    dsimp only [K.setd, K.setn, K.ev, K.nth]
    refine K.seq_pure (K.Pure.eq (K.not_ rfl) (show _ = Value.bool false from rfl)) rfl ?_
    dsimp only [K.setd, K.setn, K.ev, K.nth]
    refine K.seq_pure (K.move) rfl ?_
    dsimp only [K.setd, K.setn, K.ev, K.nth]
    refine K.seq_pure (K.move) rfl ?_
    dsimp only [K.setd, K.setn, K.ev, K.nth]
    refine K.seq_pure (K.Pure.eq (K.not_ rfl) (show _ = Value.bool false from rfl)) rfl ?_
    dsimp only [K.setd, K.setn, K.ev, K.nth]
    refine K.seq_pure (K.pick_f rfl) rfl ?_
    dsimp only [K.setd, K.setn, K.ev, K.nth]
    refine K.seq_nil ?_
    refine K.norm_then ?_
    refine K.cond_false rfl ?_
    refine K.skip ?_
    refine K.norm_then ?_
    refine K.seq ?_
    refine K.seq ?_
    refine K.region_lit ?_
    refine K.seq_pure (K.move) rfl ?_
    dsimp only [K.setd, K.setn, K.ev, K.nth]
    refine K.seq_pure (K.neq rfl rfl) rfl ?_
    dsimp only [K.setd, K.setn, K.ev, K.nth]
    refine K.seq_nil ?_
    refine K.norm_then ?_
    refine K.cond rfl (fun ht59 => ?_) (fun ht59 => ?_)
    · try replace ht59 := of_decide_eq_true ht59
      obtain ⟨hg1, hno⟩ := (grt_good g hlim.1 (by omega)).resolve_right (fun ⟨s, h, _⟩ => ht59 (by rw [h]))
      refine K.seq ?_
      refine K.draw_L [] Try_mixed ?_
      refine K.d_pure 0 rfl (K.move) (by kernel_rfl) rfl ?_
      dsimp only [K.setd, K.setn, K.ev, K.nth]
      refine K.d_pure 1 rfl (K.Pure.eq (K.eql rfl rfl) (show _ = Value.bool true from congrArg Value.bool (decide_eq_true (by rw [hg1])))) (by kernel_rfl) rfl ?_
      dsimp only [K.setd, K.setn, K.ev, K.nth]
      refine K.d_pure 2 rfl (K.move) (by kernel_rfl) rfl ?_
      dsimp only [K.setd, K.setn, K.ev, K.nth]
      refine K.d_mem 3 rfl (K.loadA_own ag_27 rfl (List.Mem.tail _ (List.Mem.head _)) rfl) (by intro c hc; first | exact hc | (repeat (first | exact hc | exact List.mem_of_mem_drop hc | apply List.mem_cons_of_mem))) (by kernel_rfl) (by kernel_rfl) rfl ?_
      try dsimp only [K.setd, K.setn, K.ev, K.nth, K.over, K.cl, K.eI, K.eP, K.eT, List.map, List.append, List.drop, List.take]
      refine K.d_call 4 rfl (K.call_g cal_37 (fun F w hF hw => c37 w)) (by intro c hc; first | exact hc | (repeat (first | exact hc | exact List.mem_of_mem_drop hc | apply List.mem_cons_of_mem))) (by kernel_rfl) rfl ?_
      try dsimp only [K.setd, K.setn, K.ev, K.nth, K.over, K.cl, K.eI, K.eP, K.eT, List.map, List.append, List.drop, List.take]
      refine K.d_pure 5 rfl (K.Pure.eq (K.eql_s2 s2_27 rfl rfl) (show _ = Value.bool true from congrArg Value.bool (decide_eq_true (by rw [hg1])))) (by kernel_rfl) rfl ?_
      dsimp only [K.setd, K.setn, K.ev, K.nth]
      refine K.d_pure 6 rfl (K.pick_t rfl) (by kernel_rfl) rfl ?_
      dsimp only [K.setd, K.setn, K.ev, K.nth]
      refine K.d_pure 7 rfl (K.move) (by kernel_rfl) rfl ?_
      dsimp only [K.setd, K.setn, K.ev, K.nth]
      refine K.d_pure 8 rfl (K.move) (by kernel_rfl) rfl ?_
      dsimp only [K.setd, K.setn, K.ev, K.nth]
      refine K.d_pure 9 rfl (K.not_ rfl) (by kernel_rfl) rfl ?_
      dsimp only [K.setd, K.setn, K.ev, K.nth]
      refine K.d_pure 10 rfl (K.move) (by kernel_rfl) rfl ?_
      dsimp only [K.setd, K.setn, K.ev, K.nth]
      refine K.dsplit 70 rfl (fun hg70 => ?_) (fun hg70 => ?_)
      · try replace hg70 := of_decide_eq_true hg70
        refine K.d_skip 11 rfl (by kernel_rfl) rfl ?_
        try dsimp only [K.setd, K.setn, K.ev, K.nth, K.over, K.cl, K.eI, K.eP, K.eT, List.map, List.append, List.drop, List.take]
        refine K.d_skip 12 rfl (by kernel_rfl) rfl ?_
        try dsimp only [K.setd, K.setn, K.ev, K.nth, K.over, K.cl, K.eI, K.eP, K.eT, List.map, List.append, List.drop, List.take]
        refine K.d_skip 13 rfl (by kernel_rfl) rfl ?_
        try dsimp only [K.setd, K.setn, K.ev, K.nth, K.over, K.cl, K.eI, K.eP, K.eT, List.map, List.append, List.drop, List.take]
        refine K.d_skip 14 rfl (by kernel_rfl) rfl ?_
        try dsimp only [K.setd, K.setn, K.ev, K.nth, K.over, K.cl, K.eI, K.eP, K.eT, List.map, List.append, List.drop, List.take]
        refine K.d_pure 15 rfl (K.pick_t rfl) (by kernel_rfl) rfl ?_
        dsimp only [K.setd, K.setn, K.ev, K.nth]
        refine K.d_pure 16 rfl (K.pick_t rfl) (by kernel_rfl) rfl ?_
        dsimp only [K.setd, K.setn, K.ev, K.nth]
        refine K.d_pure 17 rfl (K.move) (by kernel_rfl) rfl ?_
        dsimp only [K.setd, K.setn, K.ev, K.nth]
        refine K.d_call 18 rfl (K.call_g cal_26 (fun F w hF hw => c26 w)) (by intro c hc; first | exact hc | (repeat (first | exact hc | exact List.mem_of_mem_drop hc | apply List.mem_cons_of_mem))) (by kernel_rfl) rfl ?_
        try dsimp only [K.setd, K.setn, K.ev, K.nth, K.over, K.cl, K.eI, K.eP, K.eT, List.map, List.append, List.drop, List.take]
        refine K.d_pure 19 rfl (K.pick_t rfl) (by kernel_rfl) rfl ?_
        dsimp only [K.setd, K.setn, K.ev, K.nth]
        refine K.d_pure 20 rfl (K.assign) (by kernel_rfl) rfl ?_
        dsimp only [K.setd, K.setn, K.ev, K.nth]
        refine K.d_done (by kernel_rfl) ?_
        refine K.norm_then ?_
        refine K.ret ?_
        refine K.ret_then ?_
        refine K.end_ret (fun w _ => K.res_tmp rfl w) ?_
        exact K.gives rfl
      · try replace hg70 := of_decide_eq_false hg70
        refine K.d_pure 11 rfl (K.move) (by kernel_rfl) rfl ?_
        dsimp only [K.setd, K.setn, K.ev, K.nth]
        refine K.d_pure 12 rfl (K.move) (by kernel_rfl) rfl ?_
        dsimp only [K.setd, K.setn, K.ev, K.nth]
        refine K.d_pure 13 rfl (K.Pure.eq (K.conv_int ik_55 ik_3 rfl) (by rw [wrap16 hlim])) (by kernel_rfl) rfl ?_
        try dsimp only [K.setd, K.setn, K.ev, K.nth, K.over, K.cl, K.eI, K.eP, K.eT, List.map, List.append, List.drop, List.take]
        refine K.d_pure 14 rfl (K.Pure.eq (K.gtr rfl rfl) (show _ = Value.bool true from congrArg Value.bool (decide_eq_true (hno (u, v) hsc (by simpa using hg70))))) (by kernel_rfl) rfl ?_
        dsimp only [K.setd, K.setn, K.ev, K.nth]
        refine K.d_pure 15 rfl (K.pick_f rfl) (by kernel_rfl) rfl ?_
        dsimp only [K.setd, K.setn, K.ev, K.nth]
        refine K.d_pure 16 rfl (K.pick_t rfl) (by kernel_rfl) rfl ?_
        dsimp only [K.setd, K.setn, K.ev, K.nth]
        refine K.d_pure 17 rfl (K.move) (by kernel_rfl) rfl ?_
        dsimp only [K.setd, K.setn, K.ev, K.nth]
        refine K.d_call 18 rfl (K.call_g cal_26 (fun F w hF hw => c26 w)) (by intro c hc; first | exact hc | (repeat (first | exact hc | exact List.mem_of_mem_drop hc | apply List.mem_cons_of_mem))) (by kernel_rfl) rfl ?_
        try dsimp only [K.setd, K.setn, K.ev, K.nth, K.over, K.cl, K.eI, K.eP, K.eT, List.map, List.append, List.drop, List.take]
        refine K.d_pure 19 rfl (K.pick_t rfl) (by kernel_rfl) rfl ?_
        dsimp only [K.setd, K.setn, K.ev, K.nth]
        refine K.d_pure 20 rfl (K.assign) (by kernel_rfl) rfl ?_
        dsimp only [K.setd, K.setn, K.ev, K.nth]
        refine K.d_done (by kernel_rfl) ?_
        refine K.norm_then ?_
        refine K.ret ?_
        refine K.ret_then ?_
        refine K.end_ret (fun w _ => K.res_tmp rfl w) ?_
        exact K.gives rfl
    · try replace ht59 := of_decide_eq_false ht59
      obtain ⟨s, hg1, hs1, hs2, hs3, hall⟩ := (grt_good g hlim.1 (by omega)).resolve_left (fun h => ht59 (by rw [h.1]; decide))
      have e1 : s = (grtR kind base most hs rs lim).1 := by rw [hg1]
      subst e1
      have hps := scE_parts hs1
      have hpo := scE_parts hsc
      refine K.skip ?_
      refine K.norm_then ?_
      refine K.seq ?_
      refine K.region_lit ?_
      refine K.seq_sil (K.loadA_own ag_25 rfl (List.Mem.tail _ (List.Mem.tail _ (List.Mem.tail _ (List.Mem.head _)))) rfl) rfl ?_
      try dsimp only [K.setd, K.setn, K.ev, K.nth, K.over, K.cl, K.eI, K.eP, K.eT, List.map, List.append, List.drop, List.take]
      refine K.seq_sil (K.loadA_own ag_27 rfl (List.Mem.tail _ (List.Mem.head _)) rfl) rfl ?_
      try dsimp only [K.setd, K.setn, K.ev, K.nth, K.over, K.cl, K.eI, K.eP, K.eT, List.map, List.append, List.drop, List.take]
      refine K.seq_call (K.call_g cal_41 (fun F w hF hw => c41g (u := (grtR kind base most hs rs lim).1.1) (v := (grtR kind base most hs rs lim).1.2) (hH.pass hw) (hR.pass hw) g hs1)) rfl ?_
      try dsimp only [K.setd, K.setn, K.ev, K.nth, K.over, K.cl, K.eI, K.eP, K.eT, List.map, List.append, List.drop, List.take]
      refine K.seq_pure (K.move) rfl ?_
      dsimp only [K.setd, K.setn, K.ev, K.nth]
      refine K.seq_pure (K.extract rfl rfl) rfl ?_
      dsimp only [K.setd, K.setn, K.ev, K.nth]
      refine K.seq_pure (K.extract rfl rfl) rfl ?_
      dsimp only [K.setd, K.setn, K.ev, K.nth]
      refine K.seq_pure (K.assign) rfl ?_
      dsimp only [K.setd, K.setn, K.ev, K.nth]
      refine K.seq_pure (K.assign) rfl ?_
      dsimp only [K.setd, K.setn, K.ev, K.nth]
      refine K.seq_nil ?_
      refine K.norm_then ?_
      refine K.seq ?_
      refine K.region_lit ?_
      refine K.seq_sil (K.loadA_own ag_25 rfl (List.Mem.tail _ (List.Mem.tail _ (List.Mem.tail _ (List.Mem.head _)))) rfl) rfl ?_
      try dsimp only [K.setd, K.setn, K.ev, K.nth, K.over, K.cl, K.eI, K.eP, K.eT, List.map, List.append, List.drop, List.take]
      refine K.seq_sil (K.loadA_own ag_27 rfl (List.Mem.tail _ (List.Mem.head _)) rfl) rfl ?_
      try dsimp only [K.setd, K.setn, K.ev, K.nth, K.over, K.cl, K.eI, K.eP, K.eT, List.map, List.append, List.drop, List.take]
      refine K.seq_call (K.call_g cal_42 (fun F w hF hw => c42g (u := (grtR kind base most hs rs lim).1.1) (v := (grtR kind base most hs rs lim).1.2) (hH.pass hw) (hR.pass hw) g hs1)) rfl ?_
      try dsimp only [K.setd, K.setn, K.ev, K.nth, K.over, K.cl, K.eI, K.eP, K.eT, List.map, List.append, List.drop, List.take]
      refine K.seq_pure (K.move) rfl ?_
      dsimp only [K.setd, K.setn, K.ev, K.nth]
      refine K.seq_pure (K.Pure.eq (K.extract rfl rfl) (show _ = Value.bool true from congrArg Value.bool hs2)) rfl ?_
      dsimp only [K.setd, K.setn, K.ev, K.nth]
      refine K.seq_pure (K.extract rfl rfl) rfl ?_
      dsimp only [K.setd, K.setn, K.ev, K.nth]
      refine K.seq_pure (K.assign) rfl ?_
      dsimp only [K.setd, K.setn, K.ev, K.nth]
      refine K.seq_pure (K.assign) rfl ?_
      dsimp only [K.setd, K.setn, K.ev, K.nth]
      refine K.seq_nil ?_
      refine K.norm_then ?_
      refine K.seq ?_
      refine K.region_lit ?_
      refine K.seq_pure (K.move) rfl ?_
      dsimp only [K.setd, K.setn, K.ev, K.nth]
      refine K.seq_pure (K.move) rfl ?_
      dsimp only [K.setd, K.setn, K.ev, K.nth]
      refine K.seq_pure (K.move) rfl ?_
      dsimp only [K.setd, K.setn, K.ev, K.nth]
      refine K.seq_pure (K.pick_t rfl) rfl ?_
      dsimp only [K.setd, K.setn, K.ev, K.nth]
      refine K.seq_pure (K.move) rfl ?_
      dsimp only [K.setd, K.setn, K.ev, K.nth]
      refine K.seq_pure (K.move) rfl ?_
      dsimp only [K.setd, K.setn, K.ev, K.nth]
      refine K.seq_pure (K.pick_t rfl) rfl ?_
      dsimp only [K.setd, K.setn, K.ev, K.nth]
      refine K.seq_pure (K.move) rfl ?_
      dsimp only [K.setd, K.setn, K.ev, K.nth]
      refine K.seq_pure (K.move) rfl ?_
      dsimp only [K.setd, K.setn, K.ev, K.nth]
      refine K.seq_pure (K.move) rfl ?_
      dsimp only [K.setd, K.setn, K.ev, K.nth]
      refine K.seq_pure (K.Pure.eq (K.conv_int ik_55 ik_3 rfl) (by rw [wrap16 hlim])) rfl ?_
      try dsimp only [K.setd, K.setn, K.ev, K.nth, K.over, K.cl, K.eI, K.eP, K.eT, List.map, List.append, List.drop, List.take]
      refine K.seq_pure (K.Pure.eq (K.leq rfl rfl) (show _ = Value.bool true from congrArg Value.bool (decide_eq_true (hs3)))) rfl ?_
      dsimp only [K.setd, K.setn, K.ev, K.nth]
      refine K.seq_pure (K.pick_t rfl) rfl ?_
      dsimp only [K.setd, K.setn, K.ev, K.nth]
      refine K.seq_pure (K.move) rfl ?_
      dsimp only [K.setd, K.setn, K.ev, K.nth]
      refine K.seq_sil (K.loadA_own ag_27 rfl (List.Mem.tail _ (List.Mem.head _)) rfl) rfl ?_
      try dsimp only [K.setd, K.setn, K.ev, K.nth, K.over, K.cl, K.eI, K.eP, K.eT, List.map, List.append, List.drop, List.take]
      refine K.seq_sil (K.loadA_own ag_27 rfl (List.Mem.head _) rfl) rfl ?_
      try dsimp only [K.setd, K.setn, K.ev, K.nth, K.over, K.cl, K.eI, K.eP, K.eT, List.map, List.append, List.drop, List.take]
      refine K.seq_call (K.call_g cal_43 (fun F w hF hw => c43 (a := (grtR kind base most hs rs lim).1.1) (b := (grtR kind base most hs rs lim).1.2) (c := u) (d := v) (by omega) (by omega) (by omega) (by omega) (by omega) (by omega) (by omega) (by omega) w)) rfl ?_
      try dsimp only [K.setd, K.setn, K.ev, K.nth, K.over, K.cl, K.eI, K.eP, K.eT, List.map, List.append, List.drop, List.take]
      refine K.seq_pure (K.not_d rfl) rfl ?_
      dsimp only [K.setd, K.setn, K.ev, K.nth]
      refine K.seq_pure (K.move) rfl ?_
      dsimp only [K.setd, K.setn, K.ev, K.nth]
      refine K.split 110 rfl (fun hg110 => ?_) (fun hg110 => ?_)
      · try replace hg110 := of_decide_eq_true hg110
        refine K.seq_skip ?_ ?_
        · rfl
        try dsimp only [K.setd, K.setn, K.ev, K.nth, K.over, K.cl, K.eI, K.eP, K.eT, List.map, List.append, List.drop, List.take]
        refine K.seq_skip ?_ ?_
        · rfl
        try dsimp only [K.setd, K.setn, K.ev, K.nth, K.over, K.cl, K.eI, K.eP, K.eT, List.map, List.append, List.drop, List.take]
        refine K.seq_pure (K.pick_t rfl) rfl ?_
        dsimp only [K.setd, K.setn, K.ev, K.nth]
        refine K.seq_pure (K.move) rfl ?_
        dsimp only [K.setd, K.setn, K.ev, K.nth]
        refine K.seq_skip ?_ ?_
        · rfl
        try dsimp only [K.setd, K.setn, K.ev, K.nth, K.over, K.cl, K.eI, K.eP, K.eT, List.map, List.append, List.drop, List.take]
        refine K.seq_skip ?_ ?_
        · rfl
        try dsimp only [K.setd, K.setn, K.ev, K.nth, K.over, K.cl, K.eI, K.eP, K.eT, List.map, List.append, List.drop, List.take]
        refine K.seq_skip ?_ ?_
        · rfl
        try dsimp only [K.setd, K.setn, K.ev, K.nth, K.over, K.cl, K.eI, K.eP, K.eT, List.map, List.append, List.drop, List.take]
        refine K.seq_skip ?_ ?_
        · rfl
        try dsimp only [K.setd, K.setn, K.ev, K.nth, K.over, K.cl, K.eI, K.eP, K.eT, List.map, List.append, List.drop, List.take]
        refine K.seq_pure (K.pick_t rfl) rfl ?_
        dsimp only [K.setd, K.setn, K.ev, K.nth]
        refine K.seq_pure (K.pick_t rfl) rfl ?_
        dsimp only [K.setd, K.setn, K.ev, K.nth]
        refine K.seq_pure (K.move) rfl ?_
        dsimp only [K.setd, K.setn, K.ev, K.nth]
        refine K.seq_call (K.call_g cal_26 (fun F w hF hw => c26 w)) rfl ?_
        try dsimp only [K.setd, K.setn, K.ev, K.nth, K.over, K.cl, K.eI, K.eP, K.eT, List.map, List.append, List.drop, List.take]
        refine K.seq_pure (K.pick_t rfl) rfl ?_
        dsimp only [K.setd, K.setn, K.ev, K.nth]
        refine K.seq_pure (K.assign) rfl ?_
        dsimp only [K.setd, K.setn, K.ev, K.nth]
        refine K.seq_nil ?_
        refine K.norm_then ?_
        refine K.ret ?_
        refine K.end_ret (fun w _ => K.res_tmp rfl w) ?_
        exact K.gives rfl
      · try replace hg110 := of_decide_eq_false hg110
        refine K.seq_pure (K.move) rfl ?_
        dsimp only [K.setd, K.setn, K.ev, K.nth]
        refine K.seq_pure (K.not_ rfl) rfl ?_
        dsimp only [K.setd, K.setn, K.ev, K.nth]
        refine K.seq_pure (K.pick_f rfl) rfl ?_
        dsimp only [K.setd, K.setn, K.ev, K.nth]
        refine K.seq_pure (K.move) rfl ?_
        dsimp only [K.setd, K.setn, K.ev, K.nth]
        refine K.split 114 rfl (fun hg114 => ?_) (fun hg114 => ?_)
        · try replace hg114 := of_decide_eq_true hg114
          refine K.seq_skip ?_ ?_
          · rfl
          try dsimp only [K.setd, K.setn, K.ev, K.nth, K.over, K.cl, K.eI, K.eP, K.eT, List.map, List.append, List.drop, List.take]
          refine K.seq_skip ?_ ?_
          · rfl
          try dsimp only [K.setd, K.setn, K.ev, K.nth, K.over, K.cl, K.eI, K.eP, K.eT, List.map, List.append, List.drop, List.take]
          refine K.seq_skip ?_ ?_
          · rfl
          try dsimp only [K.setd, K.setn, K.ev, K.nth, K.over, K.cl, K.eI, K.eP, K.eT, List.map, List.append, List.drop, List.take]
          refine K.seq_skip ?_ ?_
          · rfl
          try dsimp only [K.setd, K.setn, K.ev, K.nth, K.over, K.cl, K.eI, K.eP, K.eT, List.map, List.append, List.drop, List.take]
          refine K.seq_pure (K.pick_t rfl) rfl ?_
          dsimp only [K.setd, K.setn, K.ev, K.nth]
          refine K.seq_pure (K.pick_t rfl) rfl ?_
          dsimp only [K.setd, K.setn, K.ev, K.nth]
          refine K.seq_pure (K.move) rfl ?_
          dsimp only [K.setd, K.setn, K.ev, K.nth]
          refine K.seq_call (K.call_g cal_26 (fun F w hF hw => c26 w)) rfl ?_
          try dsimp only [K.setd, K.setn, K.ev, K.nth, K.over, K.cl, K.eI, K.eP, K.eT, List.map, List.append, List.drop, List.take]
          refine K.seq_pure (K.pick_t rfl) rfl ?_
          dsimp only [K.setd, K.setn, K.ev, K.nth]
          refine K.seq_pure (K.assign) rfl ?_
          dsimp only [K.setd, K.setn, K.ev, K.nth]
          refine K.seq_nil ?_
          refine K.norm_then ?_
          refine K.ret ?_
          refine K.end_ret (fun w _ => K.res_tmp rfl w) ?_
          exact K.gives rfl
        · try replace hg114 := of_decide_eq_false hg114
          refine K.seq_pure (K.move) rfl ?_
          dsimp only [K.setd, K.setn, K.ev, K.nth]
          refine K.seq_pure (K.move) rfl ?_
          dsimp only [K.setd, K.setn, K.ev, K.nth]
          refine K.seq_pure (K.Pure.eq (K.conv_int ik_55 ik_3 rfl) (by rw [wrap16 hlim])) rfl ?_
          try dsimp only [K.setd, K.setn, K.ev, K.nth, K.over, K.cl, K.eI, K.eP, K.eT, List.map, List.append, List.drop, List.take]
          refine K.seq_pure (K.Pure.eq (K.gtr rfl rfl) (show _ = Value.bool true from congrArg Value.bool (decide_eq_true (hall (u, v) hsc (by simpa [ltS] using hg110) (by simpa using hg114))))) rfl ?_
          dsimp only [K.setd, K.setn, K.ev, K.nth]
          refine K.seq_pure (K.pick_f rfl) rfl ?_
          dsimp only [K.setd, K.setn, K.ev, K.nth]
          refine K.seq_pure (K.pick_t rfl) rfl ?_
          dsimp only [K.setd, K.setn, K.ev, K.nth]
          refine K.seq_pure (K.move) rfl ?_
          dsimp only [K.setd, K.setn, K.ev, K.nth]
          refine K.seq_call (K.call_g cal_26 (fun F w hF hw => c26 w)) rfl ?_
          try dsimp only [K.setd, K.setn, K.ev, K.nth, K.over, K.cl, K.eI, K.eP, K.eT, List.map, List.append, List.drop, List.take]
          refine K.seq_pure (K.pick_t rfl) rfl ?_
          dsimp only [K.setd, K.setn, K.ev, K.nth]
          refine K.seq_pure (K.assign) rfl ?_
          dsimp only [K.setd, K.setn, K.ev, K.nth]
          refine K.seq_nil ?_
          refine K.norm_then ?_
          refine K.ret ?_
          refine K.end_ret (fun w _ => K.res_tmp rfl w) ?_
          exact K.gives rfl

set_option maxRecDepth 100000 in
theorem c9 {kind base most : Int} {A B : Option Addr} {c d : Nat} {hs : List Int} {rs : List (Int × Int)} {x0 x1 : Int} {w : World} (hH : K.Rd w A 1 K.eI hs) (hR : K.Rd w B 2 K.eP rs) (hn : hs.length ≤ 4611686018427387904) (hm : rs.length ≤ 4611686018427387904) (hx0 : 0 ≤ x0 ∧ x0 ≤ 255) (hx1 : 0 ≤ x1 ∧ x1 ≤ 255) :
    Calls Try.prog 9 [.agg #[.int .i64 kind, .int .i64 base, .int .i64 most, .slice A hs.length c, .slice B rs.length d], .agg #[.int .u8 x0, .int .u8 x1]].toArray w (K.Gives (.bool true) w) := by
  refine K.enter (args := [.agg #[.int .i64 kind, .int .i64 base, .int .i64 most, .slice A hs.length c, .slice B rs.length d], .agg #[.int .u8 x0, .int .u8 x1]]) Try.func9 rfl (n := 116) rfl ?_
  simp only [List.replicate, List.cons_append, List.nil_append]
  refine K.seq ?_
  refine K.region_lit ?_
  refine K.seq_new (K.box) rfl ?_
  intro b2
  try dsimp only [K.setd, K.setn, K.ev, K.nth, K.over, K.cl, K.eI, K.eP, K.eT, List.map, List.append, List.drop, List.take]
  refine K.seq_new (K.box) rfl ?_
  intro b3
  try dsimp only [K.setd, K.setn, K.ev, K.nth, K.over, K.cl, K.eI, K.eP, K.eT, List.map, List.append, List.drop, List.take]
  refine K.seq_pure (K.assign) rfl ?_
  dsimp only [K.setd, K.setn, K.ev, K.nth]
  refine K.seq_nil ?_
  refine K.norm_then ?_
  refine K.seq ?_
  refine K.region_lit ?_
  refine K.seq_sil (K.loadA_own ag_25 rfl (List.Mem.tail _ (List.Mem.head _)) rfl) rfl ?_
  try dsimp only [K.setd, K.setn, K.ev, K.nth, K.over, K.cl, K.eI, K.eP, K.eT, List.map, List.append, List.drop, List.take]
  refine K.seq_call (K.call_g cal_29 (fun F w hF hw => c29 (hH.pass hw) (hR.pass hw) hn hm)) rfl ?_
  try dsimp only [K.setd, K.setn, K.ev, K.nth, K.over, K.cl, K.eI, K.eP, K.eT, List.map, List.append, List.drop, List.take]
  refine K.seq_pure (K.move) rfl ?_
  dsimp only [K.setd, K.setn, K.ev, K.nth]
  refine K.seq_pure (K.extract rfl rfl) rfl ?_
  dsimp only [K.setd, K.setn, K.ev, K.nth]
  refine K.seq_pure (K.extract rfl rfl) rfl ?_
  dsimp only [K.setd, K.setn, K.ev, K.nth]
  refine K.seq_new (K.alloc zr_27) rfl ?_
  intro b5
  try dsimp only [K.setd, K.setn, K.ev, K.nth, K.over, K.cl, K.eI, K.eP, K.eT, List.map, List.append, List.drop, List.take]
  refine K.seq_st (K.store_all sz_27 rfl rfl rfl rfl (K.Rep.here)) rfl ?_
  try dsimp only [K.setd, K.setn, K.ev, K.nth, K.over, K.cl, K.eI, K.eP, K.eT, List.map, List.append, List.drop, List.take]
  refine K.seq_pure (K.assign) rfl ?_
  dsimp only [K.setd, K.setn, K.ev, K.nth]
  refine K.seq_nil ?_
  refine K.norm_then ?_
  refine K.seq ?_
  refine K.seq ?_
  refine K.region_lit ?_
  refine K.seq_sil (K.loadA_own ag_25 rfl (List.Mem.tail _ (List.Mem.tail _ (List.Mem.head _))) rfl) rfl ?_
  try dsimp only [K.setd, K.setn, K.ev, K.nth, K.over, K.cl, K.eI, K.eP, K.eT, List.map, List.append, List.drop, List.take]
  refine K.seq_call (K.call_g cal_39 (fun F w hF hw => c39 (hH.pass hw) (hR.pass hw) hn hm)) rfl ?_
  try dsimp only [K.setd, K.setn, K.ev, K.nth, K.over, K.cl, K.eI, K.eP, K.eT, List.map, List.append, List.drop, List.take]
  refine K.seq_pure (K.not_d rfl) rfl ?_
  dsimp only [K.setd, K.setn, K.ev, K.nth]
  refine K.seq_nil ?_
  refine K.norm_then ?_
  refine K.cond rfl (fun ht23 => ?_) (fun ht23 => ?_)
  · try replace ht23 := of_decide_eq_true ht23
    refine K.seq ?_
    refine K.draw_L [] Try_mixed ?_
    refine K.d_pure 0 rfl (K.move) (by kernel_rfl) rfl ?_
    dsimp only [K.setd, K.setn, K.ev, K.nth]
    refine K.d_pure 1 rfl (K.Pure.eq (K.neq rfl rfl) (show _ = Value.bool true from congrArg Value.bool (decide_eq_true (by rw [lst_bad ht23]; exact ht23)))) (by kernel_rfl) rfl ?_
    dsimp only [K.setd, K.setn, K.ev, K.nth]
    refine K.d_pure 2 rfl (K.move) (by kernel_rfl) rfl ?_
    dsimp only [K.setd, K.setn, K.ev, K.nth]
    refine K.d_mem 3 rfl (K.loadA_own ag_27 rfl (List.Mem.head _) rfl) (by intro c hc; first | exact hc | (repeat (first | exact hc | exact List.mem_of_mem_drop hc | apply List.mem_cons_of_mem))) (by kernel_rfl) (by kernel_rfl) rfl ?_
    try dsimp only [K.setd, K.setn, K.ev, K.nth, K.over, K.cl, K.eI, K.eP, K.eT, List.map, List.append, List.drop, List.take]
    refine K.d_call 4 rfl (K.call_g cal_37 (fun F w hF hw => c37 w)) (by intro c hc; first | exact hc | (repeat (first | exact hc | exact List.mem_of_mem_drop hc | apply List.mem_cons_of_mem))) (by kernel_rfl) rfl ?_
    try dsimp only [K.setd, K.setn, K.ev, K.nth, K.over, K.cl, K.eI, K.eP, K.eT, List.map, List.append, List.drop, List.take]
    refine K.d_pure 5 rfl (K.Pure.eq (K.eql_s2 s2_27 rfl rfl) (show _ = Value.bool true from congrArg Value.bool (decide_eq_true (by rw [lst_bad ht23])))) (by kernel_rfl) rfl ?_
    dsimp only [K.setd, K.setn, K.ev, K.nth]
    refine K.d_pure 6 rfl (K.pick_t rfl) (by kernel_rfl) rfl ?_
    dsimp only [K.setd, K.setn, K.ev, K.nth]
    refine K.d_pure 7 rfl (K.move) (by kernel_rfl) rfl ?_
    dsimp only [K.setd, K.setn, K.ev, K.nth]
    refine K.d_call 8 rfl (K.call_g cal_26 (fun F w hF hw => c26 w)) (by intro c hc; first | exact hc | (repeat (first | exact hc | exact List.mem_of_mem_drop hc | apply List.mem_cons_of_mem))) (by kernel_rfl) rfl ?_
    try dsimp only [K.setd, K.setn, K.ev, K.nth, K.over, K.cl, K.eI, K.eP, K.eT, List.map, List.append, List.drop, List.take]
    refine K.d_pure 9 rfl (K.pick_t rfl) (by kernel_rfl) rfl ?_
    dsimp only [K.setd, K.setn, K.ev, K.nth]
    refine K.d_pure 10 rfl (K.assign) (by kernel_rfl) rfl ?_
    dsimp only [K.setd, K.setn, K.ev, K.nth]
    refine K.d_done (by kernel_rfl) ?_
    refine K.norm_then ?_
    refine K.ret ?_
    refine K.ret_then ?_
    refine K.end_ret (fun w _ => K.res_tmp rfl w) ?_
    exact K.gives rfl
  · try replace ht23 := of_decide_eq_false ht23
    have hc0 : (chk kind base most hs rs).2.2 = 0 := Decidable.not_not.1 ht23
    have g := chk_good hc0
    have g1 := g.k
    have g2 := g.n
    have g3 := g.r
    have g4 := g.b
    have g5 := g.m
    refine K.skip ?_
    refine K.norm_then ?_
    refine K.seq ?_
    refine K.region_lit ?_
    refine K.seq_sil (K.loadA_own ag_56 rfl (List.Mem.tail _ (List.Mem.head _)) rfl) rfl ?_
    try dsimp only [K.setd, K.setn, K.ev, K.nth, K.over, K.cl, K.eI, K.eP, K.eT, List.map, List.append, List.drop, List.take]
    refine K.seq_loud (K.call_f cal_40 (fun F w hF hw => c40 hx0 hx1 w)) rfl ?_
    rintro ⟨u, v⟩ hsc
    try dsimp only [K.setd, K.setn, K.ev, K.nth, K.over, K.cl, K.eI, K.eP, K.eT, List.map, List.append, List.drop, List.take]
    refine K.seq_new (K.alloc zr_27) rfl ?_
    intro b7
    try dsimp only [K.setd, K.setn, K.ev, K.nth, K.over, K.cl, K.eI, K.eP, K.eT, List.map, List.append, List.drop, List.take]
    refine K.seq_st (K.store_all sz_27 rfl rfl rfl rfl (K.Rep.here)) rfl ?_
    try dsimp only [K.setd, K.setn, K.ev, K.nth, K.over, K.cl, K.eI, K.eP, K.eT, List.map, List.append, List.drop, List.take]
    refine K.seq_nil ?_
    refine K.norm_then ?_
    refine K.seq ?_
    refine K.region_lit ?_
    refine K.seq_sil (K.loadA_own ag_25 rfl (List.Mem.tail _ (List.Mem.tail _ (List.Mem.tail _ (List.Mem.head _)))) rfl) rfl ?_
    try dsimp only [K.setd, K.setn, K.ev, K.nth, K.over, K.cl, K.eI, K.eP, K.eT, List.map, List.append, List.drop, List.take]
    refine K.seq_sil (K.loadA_own ag_27 rfl (List.Mem.head _) rfl) rfl ?_
    try dsimp only [K.setd, K.setn, K.ev, K.nth, K.over, K.cl, K.eI, K.eP, K.eT, List.map, List.append, List.drop, List.take]
    refine K.seq_loud (K.call_f cal_22 (fun F w hF hw => c22 (u := u) (v := v) (hH.pass hw) (hR.pass hw) hn hm)) rfl ?_
    rintro ⟨A1, c1⟩ hA1
    try dsimp only [K.setd, K.setn, K.ev, K.nth, K.over, K.cl, K.eI, K.eP, K.eT, List.map, List.append, List.drop, List.take]
    refine K.seq_pure (K.move) rfl ?_
    dsimp only [K.setd, K.setn, K.ev, K.nth]
    refine K.seq_pure (K.extract rfl rfl) rfl ?_
    dsimp only [K.setd, K.setn, K.ev, K.nth]
    refine K.seq_pure (K.extract rfl rfl) rfl ?_
    dsimp only [K.setd, K.setn, K.ev, K.nth]
    refine K.seq_pure (K.assign) rfl ?_
    dsimp only [K.setd, K.setn, K.ev, K.nth]
    refine K.seq_pure (K.assign) rfl ?_
    dsimp only [K.setd, K.setn, K.ev, K.nth]
    refine K.seq_nil ?_
    refine K.norm_then ?_
    refine K.seq ?_
    refine K.region_lit ?_
    refine K.seq_sil (K.loadA_own ag_25 rfl (List.Mem.tail _ (List.Mem.tail _ (List.Mem.tail _ (List.Mem.tail _ (List.Mem.head _))))) rfl) rfl ?_
    try dsimp only [K.setd, K.setn, K.ev, K.nth, K.over, K.cl, K.eI, K.eP, K.eT, List.map, List.append, List.drop, List.take]
    refine K.seq_sil (K.loadA_own ag_27 rfl (List.Mem.tail _ (List.Mem.head _)) rfl) rfl ?_
    try dsimp only [K.setd, K.setn, K.ev, K.nth, K.over, K.cl, K.eI, K.eP, K.eT, List.map, List.append, List.drop, List.take]
    refine K.seq_call (K.call_g cal_42 (fun F w hF hw => c42g (u := u) (v := v) (hH.pass hw) (hR.pass hw) g hsc)) rfl ?_
    try dsimp only [K.setd, K.setn, K.ev, K.nth, K.over, K.cl, K.eI, K.eP, K.eT, List.map, List.append, List.drop, List.take]
    refine K.seq_pure (K.move) rfl ?_
    dsimp only [K.setd, K.setn, K.ev, K.nth]
    refine K.seq_pure (K.extract rfl rfl) rfl ?_
    dsimp only [K.setd, K.setn, K.ev, K.nth]
    refine K.seq_pure (K.extract rfl rfl) rfl ?_
    dsimp only [K.setd, K.setn, K.ev, K.nth]
    refine K.seq_pure (K.assign) rfl ?_
    dsimp only [K.setd, K.setn, K.ev, K.nth]
    refine K.seq_pure (K.assign) rfl ?_
    dsimp only [K.setd, K.setn, K.ev, K.nth]
    refine K.seq_nil ?_
    refine K.norm_then ?_
    refine K.seq ?_
    refine K.seq ?_
    refine K.region_lit ?_
    refine K.seq_pure (K.move) rfl ?_
    dsimp only [K.setd, K.setn, K.ev, K.nth]
    refine K.seq_pure (K.Pure.eq (K.neq rfl rfl) (show _ = Value.bool false from congrArg Value.bool (decide_eq_false (fun h => h (ask_ok g hsc))))) rfl ?_
    dsimp only [K.setd, K.setn, K.ev, K.nth]
    refine K.seq_pure (K.move) rfl ?_
    dsimp only [K.setd, K.setn, K.ev, K.nth]
    refine K.seq_pure (K.move) rfl ?_
    dsimp only [K.setd, K.setn, K.ev, K.nth]
    refine K.seq_pure (K.Pure.eq (K.not_ rfl) (show _ = Value.bool false from rfl)) rfl ?_
    dsimp only [K.setd, K.setn, K.ev, K.nth]
    refine K.seq_pure (K.pick_f rfl) rfl ?_
    dsimp only [K.setd, K.setn, K.ev, K.nth]
    refine K.seq_nil ?_
    refine K.norm_then ?_
    refine K.cond_false rfl ?_
    refine K.skip ?_
    refine K.norm_then ?_
    refine K.seq ?_
    refine K.seq ?_
    refine K.region_lit ?_
    refine K.seq_pure (K.move) rfl ?_
    dsimp only [K.setd, K.setn, K.ev, K.nth]
    refine K.seq_pure (K.neq rfl rfl) rfl ?_
    dsimp only [K.setd, K.setn, K.ev, K.nth]
    refine K.seq_nil ?_
    refine K.norm_then ?_
    refine K.cond rfl (fun ht55 => ?_) (fun ht55 => ?_)
    · try replace ht55 := of_decide_eq_true ht55
      obtain ⟨hg1, hno⟩ := (lst_good g).resolve_right (fun ⟨s, h, _⟩ => ht55 (by rw [h]))
      refine K.seq ?_
      refine K.draw_L [] Try_mixed ?_
      refine K.d_pure 0 rfl (K.move) (by kernel_rfl) rfl ?_
      dsimp only [K.setd, K.setn, K.ev, K.nth]
      refine K.d_pure 1 rfl (K.Pure.eq (K.eql rfl rfl) (show _ = Value.bool true from congrArg Value.bool (decide_eq_true (by rw [hg1])))) (by kernel_rfl) rfl ?_
      dsimp only [K.setd, K.setn, K.ev, K.nth]
      refine K.d_pure 2 rfl (K.move) (by kernel_rfl) rfl ?_
      dsimp only [K.setd, K.setn, K.ev, K.nth]
      refine K.d_mem 3 rfl (K.loadA_own ag_27 rfl (List.Mem.tail _ (List.Mem.tail _ (List.Mem.head _))) rfl) (by intro c hc; first | exact hc | (repeat (first | exact hc | exact List.mem_of_mem_drop hc | apply List.mem_cons_of_mem))) (by kernel_rfl) (by kernel_rfl) rfl ?_
      try dsimp only [K.setd, K.setn, K.ev, K.nth, K.over, K.cl, K.eI, K.eP, K.eT, List.map, List.append, List.drop, List.take]
      refine K.d_call 4 rfl (K.call_g cal_37 (fun F w hF hw => c37 w)) (by intro c hc; first | exact hc | (repeat (first | exact hc | exact List.mem_of_mem_drop hc | apply List.mem_cons_of_mem))) (by kernel_rfl) rfl ?_
      try dsimp only [K.setd, K.setn, K.ev, K.nth, K.over, K.cl, K.eI, K.eP, K.eT, List.map, List.append, List.drop, List.take]
      refine K.d_pure 5 rfl (K.Pure.eq (K.eql_s2 s2_27 rfl rfl) (show _ = Value.bool true from congrArg Value.bool (decide_eq_true (by rw [hg1])))) (by kernel_rfl) rfl ?_
      dsimp only [K.setd, K.setn, K.ev, K.nth]
      refine K.d_pure 6 rfl (K.pick_t rfl) (by kernel_rfl) rfl ?_
      dsimp only [K.setd, K.setn, K.ev, K.nth]
      refine K.d_pure 7 rfl (K.move) (by kernel_rfl) rfl ?_
      dsimp only [K.setd, K.setn, K.ev, K.nth]
      refine K.d_pure 8 rfl (K.move) (by kernel_rfl) rfl ?_
      dsimp only [K.setd, K.setn, K.ev, K.nth]
      refine K.d_pure 9 rfl (K.not_ rfl) (by kernel_rfl) rfl ?_
      dsimp only [K.setd, K.setn, K.ev, K.nth]
      refine K.d_pure 10 rfl (K.move) (by kernel_rfl) rfl ?_
      dsimp only [K.setd, K.setn, K.ev, K.nth]
      refine K.dsplit 66 rfl (fun hg66 => ?_) (fun hg66 => ?_)
      · try replace hg66 := of_decide_eq_true hg66
        refine K.d_skip 11 rfl (by kernel_rfl) rfl ?_
        try dsimp only [K.setd, K.setn, K.ev, K.nth, K.over, K.cl, K.eI, K.eP, K.eT, List.map, List.append, List.drop, List.take]
        refine K.d_skip 12 rfl (by kernel_rfl) rfl ?_
        try dsimp only [K.setd, K.setn, K.ev, K.nth, K.over, K.cl, K.eI, K.eP, K.eT, List.map, List.append, List.drop, List.take]
        refine K.d_skip 13 rfl (by kernel_rfl) rfl ?_
        try dsimp only [K.setd, K.setn, K.ev, K.nth, K.over, K.cl, K.eI, K.eP, K.eT, List.map, List.append, List.drop, List.take]
        refine K.d_pure 14 rfl (K.pick_t rfl) (by kernel_rfl) rfl ?_
        dsimp only [K.setd, K.setn, K.ev, K.nth]
        refine K.d_pure 15 rfl (K.pick_t rfl) (by kernel_rfl) rfl ?_
        dsimp only [K.setd, K.setn, K.ev, K.nth]
        refine K.d_pure 16 rfl (K.move) (by kernel_rfl) rfl ?_
        dsimp only [K.setd, K.setn, K.ev, K.nth]
        refine K.d_call 17 rfl (K.call_g cal_26 (fun F w hF hw => c26 w)) (by intro c hc; first | exact hc | (repeat (first | exact hc | exact List.mem_of_mem_drop hc | apply List.mem_cons_of_mem))) (by kernel_rfl) rfl ?_
        try dsimp only [K.setd, K.setn, K.ev, K.nth, K.over, K.cl, K.eI, K.eP, K.eT, List.map, List.append, List.drop, List.take]
        refine K.d_pure 18 rfl (K.pick_t rfl) (by kernel_rfl) rfl ?_
        dsimp only [K.setd, K.setn, K.ev, K.nth]
        refine K.d_pure 19 rfl (K.assign) (by kernel_rfl) rfl ?_
        dsimp only [K.setd, K.setn, K.ev, K.nth]
        refine K.d_done (by kernel_rfl) ?_
        refine K.norm_then ?_
        refine K.ret ?_
        refine K.ret_then ?_
        refine K.end_ret (fun w _ => K.res_tmp rfl w) ?_
        exact K.gives rfl
      · try replace hg66 := of_decide_eq_false hg66
        refine K.d_pure 11 rfl (K.move) (by kernel_rfl) rfl ?_
        dsimp only [K.setd, K.setn, K.ev, K.nth]
        refine K.d_pure 12 rfl (K.len_sl sl_22 rfl) (by kernel_rfl) rfl ?_
        dsimp only [K.setd, K.setn, K.ev, K.nth]
        refine K.d_pure 13 rfl (K.Pure.eq (K.gtr rfl rfl) (show _ = Value.bool true from congrArg Value.bool (decide_eq_true (Int.natCast_pos.2 (by rw [flatsR_ok g hsc]; exact hno (u, v) hsc (by simpa using hg66)))))) (by kernel_rfl) rfl ?_
        dsimp only [K.setd, K.setn, K.ev, K.nth]
        refine K.d_pure 14 rfl (K.pick_f rfl) (by kernel_rfl) rfl ?_
        dsimp only [K.setd, K.setn, K.ev, K.nth]
        refine K.d_pure 15 rfl (K.pick_t rfl) (by kernel_rfl) rfl ?_
        dsimp only [K.setd, K.setn, K.ev, K.nth]
        refine K.d_pure 16 rfl (K.move) (by kernel_rfl) rfl ?_
        dsimp only [K.setd, K.setn, K.ev, K.nth]
        refine K.d_call 17 rfl (K.call_g cal_26 (fun F w hF hw => c26 w)) (by intro c hc; first | exact hc | (repeat (first | exact hc | exact List.mem_of_mem_drop hc | apply List.mem_cons_of_mem))) (by kernel_rfl) rfl ?_
        try dsimp only [K.setd, K.setn, K.ev, K.nth, K.over, K.cl, K.eI, K.eP, K.eT, List.map, List.append, List.drop, List.take]
        refine K.d_pure 18 rfl (K.pick_t rfl) (by kernel_rfl) rfl ?_
        dsimp only [K.setd, K.setn, K.ev, K.nth]
        refine K.d_pure 19 rfl (K.assign) (by kernel_rfl) rfl ?_
        dsimp only [K.setd, K.setn, K.ev, K.nth]
        refine K.d_done (by kernel_rfl) ?_
        refine K.norm_then ?_
        refine K.ret ?_
        refine K.ret_then ?_
        refine K.end_ret (fun w _ => K.res_tmp rfl w) ?_
        exact K.gives rfl
    · try replace ht55 := of_decide_eq_false ht55
      obtain ⟨s, hg1, hs1, hs2, hs3, hall⟩ := (lst_good g).resolve_left (fun h => ht55 (by rw [h.1]; decide))
      have e1 : s = (lstR kind base most hs rs).1 := by rw [hg1]
      subst e1
      have hps := scE_parts hs1
      have hpo := scE_parts hsc
      refine K.skip ?_
      refine K.norm_then ?_
      refine K.seq ?_
      refine K.region_lit ?_
      refine K.seq_sil (K.loadA_own ag_25 rfl (List.Mem.tail _ (List.Mem.tail _ (List.Mem.tail _ (List.Mem.tail _ (List.Mem.head _))))) rfl) rfl ?_
      try dsimp only [K.setd, K.setn, K.ev, K.nth, K.over, K.cl, K.eI, K.eP, K.eT, List.map, List.append, List.drop, List.take]
      refine K.seq_sil (K.loadA_own ag_27 rfl (List.Mem.tail _ (List.Mem.tail _ (List.Mem.head _))) rfl) rfl ?_
      try dsimp only [K.setd, K.setn, K.ev, K.nth, K.over, K.cl, K.eI, K.eP, K.eT, List.map, List.append, List.drop, List.take]
      refine K.seq_loud (K.call_f cal_22 (fun F w hF hw => c22 (u := (lstR kind base most hs rs).1.1) (v := (lstR kind base most hs rs).1.2) (hH.pass hw) (hR.pass hw) hn hm)) rfl ?_
      rintro ⟨A2, c2⟩ hA2
      try dsimp only [K.setd, K.setn, K.ev, K.nth, K.over, K.cl, K.eI, K.eP, K.eT, List.map, List.append, List.drop, List.take]
      refine K.seq_pure (K.move) rfl ?_
      dsimp only [K.setd, K.setn, K.ev, K.nth]
      refine K.seq_pure (K.extract rfl rfl) rfl ?_
      dsimp only [K.setd, K.setn, K.ev, K.nth]
      refine K.seq_pure (K.extract rfl rfl) rfl ?_
      dsimp only [K.setd, K.setn, K.ev, K.nth]
      refine K.seq_pure (K.assign) rfl ?_
      dsimp only [K.setd, K.setn, K.ev, K.nth]
      refine K.seq_pure (K.assign) rfl ?_
      dsimp only [K.setd, K.setn, K.ev, K.nth]
      refine K.seq_nil ?_
      refine K.norm_then ?_
      refine K.seq ?_
      refine K.region_lit ?_
      refine K.seq_sil (K.loadA_own ag_25 rfl (List.Mem.tail _ (List.Mem.tail _ (List.Mem.tail _ (List.Mem.tail _ (List.Mem.tail _ (List.Mem.head _)))))) rfl) rfl ?_
      try dsimp only [K.setd, K.setn, K.ev, K.nth, K.over, K.cl, K.eI, K.eP, K.eT, List.map, List.append, List.drop, List.take]
      refine K.seq_sil (K.loadA_own ag_27 rfl (List.Mem.tail _ (List.Mem.tail _ (List.Mem.tail _ (List.Mem.head _)))) rfl) rfl ?_
      try dsimp only [K.setd, K.setn, K.ev, K.nth, K.over, K.cl, K.eI, K.eP, K.eT, List.map, List.append, List.drop, List.take]
      refine K.seq_call (K.call_g cal_42 (fun F w hF hw => c42g (u := (lstR kind base most hs rs).1.1) (v := (lstR kind base most hs rs).1.2) (hH.pass hw) (hR.pass hw) g hs1)) rfl ?_
      try dsimp only [K.setd, K.setn, K.ev, K.nth, K.over, K.cl, K.eI, K.eP, K.eT, List.map, List.append, List.drop, List.take]
      refine K.seq_pure (K.move) rfl ?_
      dsimp only [K.setd, K.setn, K.ev, K.nth]
      refine K.seq_pure (K.Pure.eq (K.extract rfl rfl) (show _ = Value.bool true from congrArg Value.bool hs2)) rfl ?_
      dsimp only [K.setd, K.setn, K.ev, K.nth]
      refine K.seq_pure (K.extract rfl rfl) rfl ?_
      dsimp only [K.setd, K.setn, K.ev, K.nth]
      refine K.seq_pure (K.assign) rfl ?_
      dsimp only [K.setd, K.setn, K.ev, K.nth]
      refine K.seq_pure (K.assign) rfl ?_
      dsimp only [K.setd, K.setn, K.ev, K.nth]
      refine K.seq_nil ?_
      refine K.norm_then ?_
      refine K.seq ?_
      refine K.region_lit ?_
      refine K.seq_pure (K.move) rfl ?_
      dsimp only [K.setd, K.setn, K.ev, K.nth]
      refine K.seq_pure (K.Pure.eq (K.eql rfl rfl) (show _ = Value.bool true from congrArg Value.bool (decide_eq_true (ask_ok g hs1)))) rfl ?_
      dsimp only [K.setd, K.setn, K.ev, K.nth]
      refine K.seq_pure (K.move) rfl ?_
      dsimp only [K.setd, K.setn, K.ev, K.nth]
      refine K.seq_pure (K.move) rfl ?_
      dsimp only [K.setd, K.setn, K.ev, K.nth]
      refine K.seq_pure (K.pick_t rfl) rfl ?_
      dsimp only [K.setd, K.setn, K.ev, K.nth]
      refine K.seq_pure (K.move) rfl ?_
      dsimp only [K.setd, K.setn, K.ev, K.nth]
      refine K.seq_pure (K.move) rfl ?_
      dsimp only [K.setd, K.setn, K.ev, K.nth]
      refine K.seq_pure (K.pick_t rfl) rfl ?_
      dsimp only [K.setd, K.setn, K.ev, K.nth]
      refine K.seq_pure (K.move) rfl ?_
      dsimp only [K.setd, K.setn, K.ev, K.nth]
      refine K.seq_pure (K.move) rfl ?_
      dsimp only [K.setd, K.setn, K.ev, K.nth]
      refine K.seq_pure (K.len_sl sl_22 rfl) rfl ?_
      dsimp only [K.setd, K.setn, K.ev, K.nth]
      refine K.seq_pure (K.Pure.eq (K.eql rfl rfl) (show _ = Value.bool true from congrArg Value.bool (decide_eq_true (by rw [flatsR_ok g hs1, hs3]; rfl)))) rfl ?_
      dsimp only [K.setd, K.setn, K.ev, K.nth]
      refine K.seq_pure (K.pick_t rfl) rfl ?_
      dsimp only [K.setd, K.setn, K.ev, K.nth]
      refine K.seq_pure (K.move) rfl ?_
      dsimp only [K.setd, K.setn, K.ev, K.nth]
      refine K.seq_sil (K.loadA_own ag_27 rfl (List.Mem.tail _ (List.Mem.tail _ (List.Mem.head _))) rfl) rfl ?_
      try dsimp only [K.setd, K.setn, K.ev, K.nth, K.over, K.cl, K.eI, K.eP, K.eT, List.map, List.append, List.drop, List.take]
      refine K.seq_sil (K.loadA_own ag_27 rfl (List.Mem.tail _ (List.Mem.tail _ (List.Mem.tail _ (List.Mem.head _)))) rfl) rfl ?_
      try dsimp only [K.setd, K.setn, K.ev, K.nth, K.over, K.cl, K.eI, K.eP, K.eT, List.map, List.append, List.drop, List.take]
      refine K.seq_call (K.call_g cal_43 (fun F w hF hw => c43 (a := u) (b := v) (c := (lstR kind base most hs rs).1.1) (d := (lstR kind base most hs rs).1.2) (by omega) (by omega) (by omega) (by omega) (by omega) (by omega) (by omega) (by omega) w)) rfl ?_
      try dsimp only [K.setd, K.setn, K.ev, K.nth, K.over, K.cl, K.eI, K.eP, K.eT, List.map, List.append, List.drop, List.take]
      refine K.seq_pure (K.not_d rfl) rfl ?_
      dsimp only [K.setd, K.setn, K.ev, K.nth]
      refine K.seq_pure (K.move) rfl ?_
      dsimp only [K.setd, K.setn, K.ev, K.nth]
      refine K.split 105 rfl (fun hg105 => ?_) (fun hg105 => ?_)
      · try replace hg105 := of_decide_eq_true hg105
        refine K.seq_skip ?_ ?_
        · rfl
        try dsimp only [K.setd, K.setn, K.ev, K.nth, K.over, K.cl, K.eI, K.eP, K.eT, List.map, List.append, List.drop, List.take]
        refine K.seq_skip ?_ ?_
        · rfl
        try dsimp only [K.setd, K.setn, K.ev, K.nth, K.over, K.cl, K.eI, K.eP, K.eT, List.map, List.append, List.drop, List.take]
        refine K.seq_pure (K.pick_t rfl) rfl ?_
        dsimp only [K.setd, K.setn, K.ev, K.nth]
        refine K.seq_pure (K.move) rfl ?_
        dsimp only [K.setd, K.setn, K.ev, K.nth]
        refine K.seq_skip ?_ ?_
        · rfl
        try dsimp only [K.setd, K.setn, K.ev, K.nth, K.over, K.cl, K.eI, K.eP, K.eT, List.map, List.append, List.drop, List.take]
        refine K.seq_skip ?_ ?_
        · rfl
        try dsimp only [K.setd, K.setn, K.ev, K.nth, K.over, K.cl, K.eI, K.eP, K.eT, List.map, List.append, List.drop, List.take]
        refine K.seq_skip ?_ ?_
        · rfl
        try dsimp only [K.setd, K.setn, K.ev, K.nth, K.over, K.cl, K.eI, K.eP, K.eT, List.map, List.append, List.drop, List.take]
        refine K.seq_pure (K.pick_t rfl) rfl ?_
        dsimp only [K.setd, K.setn, K.ev, K.nth]
        refine K.seq_pure (K.pick_t rfl) rfl ?_
        dsimp only [K.setd, K.setn, K.ev, K.nth]
        refine K.seq_pure (K.move) rfl ?_
        dsimp only [K.setd, K.setn, K.ev, K.nth]
        refine K.seq_call (K.call_g cal_26 (fun F w hF hw => c26 w)) rfl ?_
        try dsimp only [K.setd, K.setn, K.ev, K.nth, K.over, K.cl, K.eI, K.eP, K.eT, List.map, List.append, List.drop, List.take]
        refine K.seq_pure (K.pick_t rfl) rfl ?_
        dsimp only [K.setd, K.setn, K.ev, K.nth]
        refine K.seq_pure (K.assign) rfl ?_
        dsimp only [K.setd, K.setn, K.ev, K.nth]
        refine K.seq_nil ?_
        refine K.norm_then ?_
        refine K.ret ?_
        refine K.end_ret (fun w _ => K.res_tmp rfl w) ?_
        exact K.gives rfl
      · try replace hg105 := of_decide_eq_false hg105
        refine K.seq_pure (K.move) rfl ?_
        dsimp only [K.setd, K.setn, K.ev, K.nth]
        refine K.seq_pure (K.not_ rfl) rfl ?_
        dsimp only [K.setd, K.setn, K.ev, K.nth]
        refine K.seq_pure (K.pick_f rfl) rfl ?_
        dsimp only [K.setd, K.setn, K.ev, K.nth]
        refine K.seq_pure (K.move) rfl ?_
        dsimp only [K.setd, K.setn, K.ev, K.nth]
        refine K.split 109 rfl (fun hg109 => ?_) (fun hg109 => ?_)
        · try replace hg109 := of_decide_eq_true hg109
          refine K.seq_skip ?_ ?_
          · rfl
          try dsimp only [K.setd, K.setn, K.ev, K.nth, K.over, K.cl, K.eI, K.eP, K.eT, List.map, List.append, List.drop, List.take]
          refine K.seq_skip ?_ ?_
          · rfl
          try dsimp only [K.setd, K.setn, K.ev, K.nth, K.over, K.cl, K.eI, K.eP, K.eT, List.map, List.append, List.drop, List.take]
          refine K.seq_skip ?_ ?_
          · rfl
          try dsimp only [K.setd, K.setn, K.ev, K.nth, K.over, K.cl, K.eI, K.eP, K.eT, List.map, List.append, List.drop, List.take]
          refine K.seq_pure (K.pick_t rfl) rfl ?_
          dsimp only [K.setd, K.setn, K.ev, K.nth]
          refine K.seq_pure (K.pick_t rfl) rfl ?_
          dsimp only [K.setd, K.setn, K.ev, K.nth]
          refine K.seq_pure (K.move) rfl ?_
          dsimp only [K.setd, K.setn, K.ev, K.nth]
          refine K.seq_call (K.call_g cal_26 (fun F w hF hw => c26 w)) rfl ?_
          try dsimp only [K.setd, K.setn, K.ev, K.nth, K.over, K.cl, K.eI, K.eP, K.eT, List.map, List.append, List.drop, List.take]
          refine K.seq_pure (K.pick_t rfl) rfl ?_
          dsimp only [K.setd, K.setn, K.ev, K.nth]
          refine K.seq_pure (K.assign) rfl ?_
          dsimp only [K.setd, K.setn, K.ev, K.nth]
          refine K.seq_nil ?_
          refine K.norm_then ?_
          refine K.ret ?_
          refine K.end_ret (fun w _ => K.res_tmp rfl w) ?_
          exact K.gives rfl
        · try replace hg109 := of_decide_eq_false hg109
          refine K.seq_pure (K.move) rfl ?_
          dsimp only [K.setd, K.setn, K.ev, K.nth]
          refine K.seq_pure (K.len_sl sl_22 rfl) rfl ?_
          dsimp only [K.setd, K.setn, K.ev, K.nth]
          refine K.seq_pure (K.Pure.eq (K.gtr rfl rfl) (show _ = Value.bool true from congrArg Value.bool (decide_eq_true (Int.natCast_pos.2 (by rw [flatsR_ok g hsc]; exact hall (u, v) hsc (by simpa [ltS] using hg105) (by simpa using hg109)))))) rfl ?_
          dsimp only [K.setd, K.setn, K.ev, K.nth]
          refine K.seq_pure (K.pick_f rfl) rfl ?_
          dsimp only [K.setd, K.setn, K.ev, K.nth]
          refine K.seq_pure (K.pick_t rfl) rfl ?_
          dsimp only [K.setd, K.setn, K.ev, K.nth]
          refine K.seq_pure (K.move) rfl ?_
          dsimp only [K.setd, K.setn, K.ev, K.nth]
          refine K.seq_call (K.call_g cal_26 (fun F w hF hw => c26 w)) rfl ?_
          try dsimp only [K.setd, K.setn, K.ev, K.nth, K.over, K.cl, K.eI, K.eP, K.eT, List.map, List.append, List.drop, List.take]
          refine K.seq_pure (K.pick_t rfl) rfl ?_
          dsimp only [K.setd, K.setn, K.ev, K.nth]
          refine K.seq_pure (K.assign) rfl ?_
          dsimp only [K.setd, K.setn, K.ev, K.nth]
          refine K.seq_nil ?_
          refine K.norm_then ?_
          refine K.ret ?_
          refine K.end_ret (fun w _ => K.res_tmp rfl w) ?_
          exact K.gives rfl

end Go.Proofs.Ytafkbioeoklldaa
