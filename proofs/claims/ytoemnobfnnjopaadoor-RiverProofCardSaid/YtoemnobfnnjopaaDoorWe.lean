/-
  Walks of the program's functions, printed by program: what each returns.
  Conditions stand in each theorem.
-/
import Derived.WalkArith
import Derived.Laws.Closers25b
import Derived.Test.YtoemnobfnnjopaaDoorWc
import Derived.Test.YtoemnobfnnjopaaDoorWd
set_option linter.unusedSimpArgs false
set_option linter.unusedVariables false
namespace Go.Proofs.YtoemnobfnnjopaaDoor
open Go.RowKit Go
open Go.K (setd setn ev nth over cl eI eP eT setM setF)
attribute [local irreducible] K.blk K.row
theorem laidOut : laidOutB Tryd.prog = true := by kernel_rfl
theorem ulN : Tryd.prog.underlying 59 = some (.map 9 3) := by kernel_rfl
set_option maxRecDepth 100000 in
theorem mapN : K.MapT Tryd.prog 59 9 := ⟨⟨3, ulN, fun w => by kernel_rfl⟩, WideMaps.string_law Tryd.underlying9⟩
theorem keyN {s : ByteArray} (h : s.size ≤ 16) : ∃ q, keyOf Tryd.prog 9 (.string s) = some q := ⟨_, WideMaps.keyOf_string_mk Tryd.underlying9 (by unfold maxLen; omega)⟩
theorem keyNs {r : List RvT} {k : Nat} (hk : k ≤ r.length) (hall : ∀ j, j < k → rvE r j = 0) : ∀ p ∈ kvS r k, ∃ q, keyOf Tryd.prog 9 p.1 = some q := fun p hp => by
  obtain ⟨s, rfl, hs⟩ := kv_nm hk hall hp
  exact keyN hs
theorem keyPut {kvs kvs' : List (Value × Int)} {key : Value} {v : Int} (hk : ∃ q, keyOf Tryd.prog 9 key = some q) (hks : ∀ p ∈ kvs, ∃ q, keyOf Tryd.prog 9 p.1 = some q) (h : K.PutQ kvs key v kvs') : ∀ p ∈ kvs', ∃ q, keyOf Tryd.prog 9 p.1 = some q := fun p hp => by
  rcases h with ⟨_, rfl⟩ | ⟨j, n, _, rfl⟩
  · rcases List.mem_append.1 hp with h | h
    · exact hks p h
    · simp at h; subst h; exact hk
  · rcases List.mem_or_eq_of_mem_set hp with h | h
    · exact hks p h
    · subst h; exact hk

theorem kv_bd {r : List RvT} {k : Nat} : ∀ p ∈ kvS r k, 1 ≤ p.2 ∧ p.2 ≤ 1000 := fun p hp => by
  obtain ⟨q, _, rfl⟩ := kv_at hp
  exact ⟨show (1 : Int) ≤ 1 by decide, show (1 : Int) ≤ 1000 by decide⟩

set_option maxRecDepth 100000 in
theorem c47 {s : ByteArray} {kvs : List (Value × Int)} {b : Nat} {T : List K.Chunk} {w0 w : World} (hst : K.St w0 (K.mq b none kvs :: T) w) (hko : ∀ p ∈ kvs, ∃ q, keyOf Tryd.prog 9 p.1 = some q) (hs : s.size ≤ 16) (hv : ∀ p ∈ kvs, 1 ≤ p.2 ∧ p.2 ≤ 1000) (hd : (kvs.map (·.1)).Nodup) :
    Calls Tryd.prog 47 [.map (some b), .string s].toArray w (K.RetU (MetOk kvs s) (fun p => .int .i64 p.1) w0 (fun p => K.mq b none p.2 :: T)) := by
  refine K.enterU (args := [.map (some b), .string s]) Tryd.func47 rfl (n := 10) rfl hst ?_
  simp only [List.replicate, List.cons_append, List.nil_append]
  refine sr ?_
  refine qa ?_
  refine sn ?_
  refine sr ?_
  iterate 2 refine qm ?_
  refine K.seq_loud (K.lookup_mq mapN rfl rfl (K.m0) (keyN hs) hko) rfl ?_
  rintro n7 hn7
  refine zN ?_
  have hb7 : 0 ≤ n7 ∧ n7 ≤ 1000 := by
    rcases hn7 with h | h
    · omega
    · have := hv _ h; simp only at this; omega
  refine zN ?_
  refine qp (K.add_i64 rfl rfl (by omega)) ?_
  refine K.seq_upd (K.mapUpdate_mq mapN rfl rfl rfl (keyN hs) hko (fun _ => K.rp0)) rfl ?_
  rintro kvs4 hput4
  refine zN ?_
  refine sn ?_
  refine sr ?_
  iterate 2 refine qm ?_
  refine K.seq_loud (K.lookup_mq mapN rfl rfl (K.m0) (keyN hs) (keyPut (keyN hs) hko hput4)) rfl ?_
  rintro n11 hn11
  refine zN ?_
  refine qa ?_
  refine sn ?_
  refine K.ret ?_
  refine K.end_ret (fun w _ => K.res_tmp rfl w) ?_
  exact K.retsU (n11, kvs4) (met_ok (fun p hp => (hv p hp).1) hd hn7 hput4 hn11) rfl (List.Sublist.refl _)

set_option maxRecDepth 100000 in
theorem c51 {r : List RvT} {A : Option Addr} {c : Nat} {i : Nat} {w : World} (hR : K.Rd w A 4 eR r) (hn : r.length ≤ 4611686018427387904) (hi : i < r.length) :
    Calls Tryd.prog 51 [.slice A r.length c, .int .i64 (i : Int)].toArray w (K.Gives (.int .i64 (posE r.length i (r.getD i default))) w) := by
  refine K.enter (args := [.slice A r.length c, .int .i64 (i : Int)]) Tryd.func51 rfl (n := 39) rfl ?_
  simp only [List.replicate, List.cons_append, List.nil_append]
  refine sr ?_
  refine qa ?_
  refine sn ?_
  refine sr ?_
  iterate 2 refine qm ?_
  refine K.seq_ix (M := []) _ hR.sl sl_22 rfl rfl rfl (by omega) rfl ?_
  intro p8 hp8
  refine zN ?_
  refine K.seq_sil (K.loadA_p ag_44 rfl (hp8.any) rfl) rfl ?_
  refine zN ?_
  refine K.seq_new (K.alloc zr_44) rfl ?_
  intro b5
  refine zN ?_
  refine K.seq_st (K.store_all sz_44 rfl rfl rfl rfl (K.rp0)) rfl ?_
  refine zN ?_
  refine sn ?_
  refine K.seq ?_
  refine sr ?_
  refine qp (K.fieldAddr_lit fo_44_2 rfl) ?_
  refine K.seq_sil (K.load1_own one_3 rfl (K.m0) rfl) rfl ?_
  refine zN ?_
  refine K.seq_call (K.call_g cal_49 (fun F w hF hw => c49 w)) rfl ?_
  refine zN ?_
  first | refine K.seq_pure (K.not_d rfl) rfl ?_ | refine K.seq_pure (K.not_ rfl) rfl ?_
  refine zN ?_
  refine qm ?_
  refine K.split 14 rfl (fun hg14 => ?_) (fun hg14 => ?_)
  · try replace hg14 := of_decide_eq_true hg14
    iterate 4 refine qs ?_
    refine qp (K.pick_t rfl) ?_
    refine sn ?_
    refine K.cond_true rfl ?_
    refine sr ?_
    refine qa ?_
    refine sn ?_
    refine K.ret ?_
    refine K.ret_then ?_
    refine K.end_ret (fun w _ => K.res_tmp rfl w) ?_
    exact K.gives_i rfl (pos_7 (by omega)).symm
  try replace hg14 := of_decide_eq_false hg14
  refine qp (K.fieldAddr_lit fo_44_3 rfl) ?_
  refine K.seq_sil (K.load1_own one_3 rfl (K.m0) rfl) rfl ?_
  refine zN ?_
  refine K.seq_call (K.call_g cal_49 (fun F w hF hw => c49 w)) rfl ?_
  refine zN ?_
  first | refine K.seq_pure (K.not_d rfl) rfl ?_ | refine K.seq_pure (K.not_ rfl) rfl ?_
  refine zN ?_
  refine qp (K.pick_f rfl) ?_
  refine sn ?_
  refine K.cond rfl (fun ht19 => ?_) (fun ht19 => ?_)
  · try replace ht19 := of_decide_eq_true ht19
    refine sr ?_
    refine qa ?_
    refine sn ?_
    refine K.ret ?_
    refine K.ret_then ?_
    refine K.end_ret (fun w _ => K.res_tmp rfl w) ?_
    exact K.gives_i rfl (pos_7 (by omega)).symm
  try replace ht19 := of_decide_eq_false ht19
  refine K.skip ?_
  refine K.norm_then ?_
  refine K.seq ?_
  refine sr ?_
  refine qp (K.fieldAddr_lit fo_44_1 rfl) ?_
  refine K.seq_sil (K.load1_own one_3 rfl (K.m0) rfl) rfl ?_
  refine zN ?_
  refine qm ?_
  refine qp (K.len_sl sl_22 rfl) ?_
  refine qp (K.sub_i64 rfl rfl (by omega)) ?_
  refine K.seq_call (K.call_g cal_49 (fun F w hF hw => c49 w)) rfl ?_
  refine zN ?_
  first | refine K.seq_pure (K.not_d rfl) rfl ?_ | refine K.seq_pure (K.not_ rfl) rfl ?_
  refine zN ?_
  refine sn ?_
  refine K.cond rfl (fun ht26 => ?_) (fun ht26 => ?_)
  · try replace ht26 := of_decide_eq_true ht26
    refine sr ?_
    refine qa ?_
    refine sn ?_
    refine K.ret ?_
    refine K.ret_then ?_
    refine K.end_ret (fun w _ => K.res_tmp rfl w) ?_
    exact K.gives_i rfl (pos_4 (by omega) (by omega)).symm
  try replace ht26 := of_decide_eq_false ht26
  refine K.skip ?_
  refine K.norm_then ?_
  refine K.seq ?_
  refine sr ?_
  refine qp (K.fieldAddr_lit fo_44_1 rfl) ?_
  refine K.seq_sil (K.load1_own one_3 rfl (K.m0) rfl) rfl ?_
  refine zN ?_
  refine qm ?_
  refine qp (K.eql rfl rfl) ?_
  refine qm ?_
  refine K.split 31 rfl (fun hg31 => ?_) (fun hg31 => ?_)
  · try replace hg31 := of_decide_eq_true hg31
    iterate 8 refine qs ?_
    refine qp (K.pick_t rfl) ?_
    refine sn ?_
    refine K.cond_true rfl ?_
    refine sr ?_
    refine qa ?_
    refine sn ?_
    refine K.ret ?_
    refine K.ret_then ?_
    refine K.end_ret (fun w _ => K.res_tmp rfl w) ?_
    exact K.gives_i rfl (pos_2 (by omega) (by omega) (by omega)).symm
  try replace hg31 := of_decide_eq_false hg31
  refine qp (K.fieldAddr_lit fo_44_1 rfl) ?_
  refine K.seq_sil (K.load1_own one_3 rfl (K.m0) rfl) rfl ?_
  refine zN ?_
  refine qp (K.eql rfl rfl) ?_
  refine qm ?_
  refine K.split 35 rfl (fun hg35 => ?_) (fun hg35 => ?_)
  · try replace hg35 := of_decide_eq_true hg35
    refine qp (K.fieldAddr_lit fo_44_2 rfl) ?_
    refine K.seq_sil (K.load1_own one_3 rfl (K.m0) rfl) rfl ?_
    refine zN ?_
    refine qp (K.neq rfl rfl) ?_
    refine qp (K.pick_t rfl) ?_
    refine qp (K.pick_f rfl) ?_
    refine sn ?_
    refine K.cond rfl (fun ht40 => ?_) (fun ht40 => ?_)
    · try replace ht40 := of_decide_eq_true ht40
      refine sr ?_
      refine qa ?_
      refine sn ?_
      refine K.ret ?_
      refine K.ret_then ?_
      refine K.end_ret (fun w _ => K.res_tmp rfl w) ?_
      exact K.gives_i rfl (pos_2 (by omega) (by omega) (by omega)).symm
    try replace ht40 := of_decide_eq_false ht40
    refine K.skip ?_
    refine K.norm_then ?_
    refine sr ?_
    refine qa ?_
    refine sn ?_
    refine K.ret ?_
    refine K.end_ret (fun w _ => K.res_tmp rfl w) ?_
    exact K.gives_i rfl (pos_0 (by omega) (by omega) (by omega)).symm
  try replace hg35 := of_decide_eq_false hg35
  iterate 3 refine qs ?_
  refine qp (K.pick_f rfl) ?_
  refine qp (K.pick_f rfl) ?_
  refine sn ?_
  refine K.cond_false rfl ?_
  refine K.skip ?_
  refine K.norm_then ?_
  refine sr ?_
  refine qa ?_
  refine sn ?_
  refine K.ret ?_
  refine K.end_ret (fun w _ => K.res_tmp rfl w) ?_
  exact K.gives_i rfl (pos_0 (by omega) (by omega) (by omega)).symm

theorem mou_g {z : List Nat} {k : Nat} (h : z.length ≠ 1) : (z ++ [k]).getD 1 0 = z.getD 1 0 := by
  match z, h with
  | [], _ => rfl
  | [_], h => exact absurd rfl h
  | _ :: _ :: _, _ => rfl


set_option maxRecDepth 100000 in
set_option maxHeartbeats 1000000 in
theorem c14 {r : List RvT} {A : Option Addr} {c : Nat} {w : World} (hR : K.Rd w A 4 eR r) (hn : r.length ≤ 4611686018427387904) :
    Calls Tryd.prog 14 [.slice A r.length c].toArray w (K.Gives (K.tup3 (chk r)) w) := by
  refine K.enter (args := [.slice A r.length c]) Tryd.func14 rfl (n := 120) rfl ?_
  simp only [List.replicate, List.cons_append, List.nil_append]
  refine sr ?_
  iterate 3 refine qa ?_
  refine sn ?_
  refine K.seq ?_
  refine sr ?_
  refine qm ?_
  refine qp (K.len_sl sl_22 rfl) ?_
  refine K.seq_new (K.buildSlice (bs1 _)) rfl ?_
  intro b14
  refine zN ?_
  refine K.seq_call (K.call_g cal_46 (fun F w hF hw => c46_1 hw (hF _ (K.m0)))) rfl ?_
  refine zN ?_
  refine sn ?_
  refine K.cond rfl (fun ht15 => ?_) (fun ht15 => ?_)
  · try replace ht15 := of_decide_eq_true ht15
    refine sr ?_
    iterate 3 refine qa ?_
    refine sn ?_
    refine K.ret ?_
    refine K.ret_then ?_
    refine K.end_ret (fun w _ => K.res_ttt rfl w) ?_
    exact K.gives (by rw [chk_1 (by omega)]; rfl)
  try replace ht15 := of_decide_eq_false ht15
  refine K.skip ?_
  refine K.norm_then ?_
  refine sr ?_
  refine K.seq_new (K.mkMap_q) rfl ?_
  intro b16
  refine zN ?_
  refine K.seq_pure (K.mkFunc) rfl ?_
  refine zN ?_
  refine qa ?_
  refine sn ?_
  refine sr ?_
  refine qa ?_
  refine sn ?_
  refine sr ?_
  refine qa ?_
  refine sn ?_
  refine K.seq ?_
  refine K.seq ?_
  refine K.weak (List.Sublist.cons_cons _ (List.Sublist.cons _ (List.Sublist.slnil))) ?_
  refine K.region_lit ?_
  refine qm ?_
  refine qp (K.len_sl sl_22 rfl) ?_
  refine qm ?_
  refine sn ?_
  refine K.block ?_
  refine K.loopW [6, 7, 20] [2, 3, 4, 8, 9, 21, 22, 23, 24, 25, 26, 27, 28, 29, 30, 31, 32, 33, 34, 35, 36, 37, 38, 39, 40, 41, 42, 43, 44, 45, 46, 47, 48, 49, 50, 51, 52, 53, 54, 55, 56, 57, 58, 59, 60, 61, 62, 63, 64, 65, 66, 67, 68, 69, 70, 71, 72, 73, 74, 75, 76, 77, 78, 79, 80, 81, 82, 83] (fun vi L => ∃ k : Nat, vi = [.int .i64 ((mouS r k).length : Int), .int .i64 (((mouS r k).getD 1 0 : Nat) : Int), .int .i64 ((k : Nat) : Int)] ∧ L = [K.mq b16 none (kvS r k)] ∧ k ≤ r.length ∧ ∀ j, j < k → rvE r j = 0) (fun vi => r.length - (intOf (K.nth vi 2)).toNat) ?_ ?_
  · exact ⟨0, rfl, rfl, Nat.zero_le _, fun j hj => absurd hj (Nat.not_lt_zero j)⟩
  intro vi vr L hJ
  obtain ⟨k, rfl, rfl, hkn, hall⟩ := hJ
  try dsimp only [setd, setn, ev, nth, over, cl, eI, eP, eT, eR, setM, setF, List.map, List.append, List.drop, List.take]
  refine sr ?_
  refine qp (K.lss rfl rfl) ?_
  refine sn ?_
  refine K.seq ?_
  refine K.cond rfl (fun ht21 => ?_) (fun ht21 => ?_)
  · try replace ht21 := of_decide_eq_true ht21
    have hk : k < r.length := by omega
    have hml := @mou_len r k
    refine K.skip ?_
    refine K.norm_then ?_
    refine K.seq ?_
    refine K.block ?_
    refine sr ?_
    refine qm ?_
    refine K.seq_ix (M := []) _ hR.sl sl_22 rfl rfl rfl (by omega) rfl ?_
    intro p23 hp23
    refine zN ?_
    refine K.seq_sil (K.loadA_p ag_44 rfl (hp23.any) rfl) rfl ?_
    refine zN ?_
    refine K.seq_new (K.alloc zr_44) rfl ?_
    intro b9
    refine zN ?_
    refine qa ?_
    refine K.seq_st (K.store_all sz_44 rfl rfl rfl rfl (K.rp0)) rfl ?_
    refine zN ?_
    refine sn ?_
    refine K.seq ?_
    refine K.block ?_
    refine sr ?_
    refine qp (K.fieldAddr_lit fo_44_0 rfl) ?_
    refine K.seq_sil (K.load1_own one_9 rfl (K.m0) rfl) rfl ?_
    refine zN ?_
    refine K.seq_call (K.call_g cal_48 (fun F w hF hw => c48 w)) rfl ?_
    refine zN ?_
    first | refine K.seq_pure (K.not_d rfl) rfl ?_ | refine K.seq_pure (K.not_ rfl) rfl ?_
    refine zN ?_
    refine qa ?_
    refine sn ?_
    refine K.cond rfl (fun ht25 => ?_) (fun ht25 => ?_)
    · try replace ht25 := of_decide_eq_true ht25
      have hnm : nameB (r.getD k default).nm = false := by simpa using ht25
      refine sr ?_
      refine qm ?_
      iterate 3 refine qa ?_
      refine sn ?_
      refine K.ret ?_
      refine K.ret_block ?_
      refine K.ret_then ?_
      refine K.ret_block ?_
      refine K.ret_then ?_
      refine K.ret_then ?_
      refine K.ret_block ?_
      refine K.ret_then ?_
      refine K.end_ret (fun w _ => K.res_ttt rfl w) ?_
      have hv : rvE r k = 6 := rv_6 hnm
      exact K.gives (by rw [chk_at (by omega) hk hall (by rw [hv]; decide), hv]; rfl)
    try replace ht25 := of_decide_eq_false ht25
    have hnm : nameB (r.getD k default).nm = true := by simpa using ht25
    refine sr ?_
    refine K.permH (L' := [_, _]) (List.Perm.trans (List.perm_middle (l₁ := [_])) (List.Perm.cons _ (List.Perm.refl _))) ?_
    refine qm ?_
    refine qp (K.fieldAddr_lit fo_44_0 rfl) ?_
    refine K.seq_sil (K.load1_own one_9 rfl (K.m1) rfl) rfl ?_
    refine zN ?_
    refine K.seq_upd (K.callU (first := [.map (some b16)]) (cap := []) rfl cal_47 (fun w hw => c47 hw (keyNs (by omega) hall) (nm_size hnm) (kv_bd) (kv_nd (by omega) hall))) rfl ?_
    rintro ⟨n35, kv35⟩ hm35
    refine zN ?_
    refine qp (K.gtr rfl rfl) ?_
    refine qa ?_
    refine sn ?_
    refine K.cond rfl (fun ht31 => ?_) (fun ht31 => ?_)
    · try replace ht31 := of_decide_eq_true ht31
      have hdu : ((r.take k).any fun q => nmEq q.nm (r.getD k default).nm) = true := by
        rcases hm35 with ⟨_, h, _⟩ | ⟨h, _⟩
        · simp only at h; omega
        · exact kv_dup.1 h
      refine sr ?_
      refine qm ?_
      iterate 3 refine qa ?_
      refine sn ?_
      refine K.ret ?_
      refine K.ret_block ?_
      refine K.ret_then ?_
      refine K.ret_block ?_
      refine K.ret_then ?_
      refine K.ret_then ?_
      refine K.ret_block ?_
      refine K.ret_then ?_
      refine K.end_ret (fun w _ => K.res_ttt rfl w) ?_
      have hv : rvE r k = 5 := rv_5 hnm hdu
      exact K.gives (by rw [chk_at (by omega) hk hall (by rw [hv]; decide), hv]; rfl)
    try replace ht31 := of_decide_eq_false ht31
    obtain ⟨hfr, hkv⟩ : ((r.take k).any fun q => nmEq q.nm (r.getD k default).nm) = false ∧ kv35 = kvS r k ++ [(Value.string (r.getD k default).nm, 1)] := by
      rcases hm35 with ⟨h, _, h2⟩ | ⟨_, h⟩
      · exact ⟨kv_fresh h, h2⟩
      · simp only at h; omega
    subst hkv
    refine sr ?_
    refine qp (K.fieldAddr_lit fo_44_2 rfl) ?_
    refine K.seq_sil (K.load1_own one_3 rfl (K.m1) rfl) rfl ?_
    refine zN ?_
    refine K.seq_new (K.buildSlice (bs1 _)) rfl ?_
    intro b41
    refine zN ?_
    refine K.seq_call (K.call_g cal_46 (fun F w hF hw => c46_1 hw (hF _ (K.m0)))) rfl ?_
    refine zN ?_
    refine qm ?_
    refine K.split 43 rfl (fun hg43 => ?_) (fun hg43 => ?_)
    · try replace hg43 := of_decide_eq_true hg43
      iterate 4 refine qs ?_
      refine qp (K.pick_t rfl) ?_
      refine qa ?_
      refine sn ?_
      refine K.cond_true rfl ?_
      refine sr ?_
      refine qm ?_
      iterate 3 refine qa ?_
      refine sn ?_
      refine K.ret ?_
      refine K.ret_block ?_
      refine K.ret_then ?_
      refine K.ret_block ?_
      refine K.ret_then ?_
      refine K.ret_then ?_
      refine K.ret_block ?_
      refine K.ret_then ?_
      refine K.end_ret (fun w _ => K.res_ttt rfl w) ?_
      have hv : rvE r k = 7 := by rw [rv_p hnm hfr]; exact pos_7 (by omega)
      exact K.gives (by rw [chk_at (by omega) hk hall (by rw [hv]; decide), hv]; rfl)
    try replace hg43 := of_decide_eq_false hg43
    refine qp (K.fieldAddr_lit fo_44_3 rfl) ?_
    refine K.seq_sil (K.load1_own one_3 rfl (K.m2) rfl) rfl ?_
    refine zN ?_
    refine K.seq_new (K.buildSlice (bs1 _)) rfl ?_
    intro b46
    refine zN ?_
    refine K.seq_call (K.call_g cal_46 (fun F w hF hw => c46_1 hw (hF _ (K.m0)))) rfl ?_
    refine zN ?_
    refine qp (K.pick_f rfl) ?_
    refine qa ?_
    refine sn ?_
    refine K.cond rfl (fun ht38 => ?_) (fun ht38 => ?_)
    · try replace ht38 := of_decide_eq_true ht38
      refine sr ?_
      refine qm ?_
      iterate 3 refine qa ?_
      refine sn ?_
      refine K.ret ?_
      refine K.ret_block ?_
      refine K.ret_then ?_
      refine K.ret_block ?_
      refine K.ret_then ?_
      refine K.ret_then ?_
      refine K.ret_block ?_
      refine K.ret_then ?_
      refine K.end_ret (fun w _ => K.res_ttt rfl w) ?_
      have hv : rvE r k = 7 := by rw [rv_p hnm hfr]; exact pos_7 (by omega)
      exact K.gives (by rw [chk_at (by omega) hk hall (by rw [hv]; decide), hv]; rfl)
    try replace ht38 := of_decide_eq_false ht38
    refine sr ?_
    refine qm ?_
    refine qp (K.len_sl sl_22 rfl) ?_
    refine qp (K.sub_i64 rfl rfl (by omega)) ?_
    refine qp (K.fieldAddr_lit fo_44_1 rfl) ?_
    refine K.seq_sil (K.load1_own one_3 rfl (K.m3) rfl) rfl ?_
    refine zN ?_
    refine K.seq_new (K.buildSlice (bs1 _)) rfl ?_
    intro b56
    refine zN ?_
    refine K.seq_call (K.call_g cal_46 (fun F w hF hw => c46_1 hw (hF _ (K.m0)))) rfl ?_
    refine zN ?_
    refine qa ?_
    refine sn ?_
    refine K.cond rfl (fun ht50 => ?_) (fun ht50 => ?_)
    · try replace ht50 := of_decide_eq_true ht50
      refine sr ?_
      refine qm ?_
      iterate 3 refine qa ?_
      refine sn ?_
      refine K.ret ?_
      refine K.ret_block ?_
      refine K.ret_then ?_
      refine K.ret_block ?_
      refine K.ret_then ?_
      refine K.ret_then ?_
      refine K.ret_block ?_
      refine K.ret_then ?_
      refine K.end_ret (fun w _ => K.res_ttt rfl w) ?_
      have hv : rvE r k = 4 := by rw [rv_p hnm hfr]; exact pos_4 (by omega) (by omega)
      exact K.gives (by rw [chk_at (by omega) hk hall (by rw [hv]; decide), hv]; rfl)
    try replace ht50 := of_decide_eq_false ht50
    refine sr ?_
    refine qp (K.fieldAddr_lit fo_44_1 rfl) ?_
    refine K.seq_sil (K.load1_own one_3 rfl (K.m4) rfl) rfl ?_
    refine zN ?_
    refine qm ?_
    refine qp (K.eql rfl rfl) ?_
    refine qm ?_
    refine K.split 64 rfl (fun hg64 => ?_) (fun hg64 => ?_)
    · try replace hg64 := of_decide_eq_true hg64
      iterate 8 refine qs ?_
      refine qp (K.pick_t rfl) ?_
      refine qa ?_
      refine sn ?_
      refine K.cond_true rfl ?_
      refine sr ?_
      refine qm ?_
      iterate 3 refine qa ?_
      refine sn ?_
      refine K.ret ?_
      refine K.ret_block ?_
      refine K.ret_then ?_
      refine K.ret_block ?_
      refine K.ret_then ?_
      refine K.ret_then ?_
      refine K.ret_block ?_
      refine K.ret_then ?_
      refine K.end_ret (fun w _ => K.res_ttt rfl w) ?_
      have hv : rvE r k = 2 := by rw [rv_p hnm hfr]; exact pos_2 (by omega) (by omega) (by omega)
      exact K.gives (by rw [chk_at (by omega) hk hall (by rw [hv]; decide), hv]; rfl)
    try replace hg64 := of_decide_eq_false hg64
    refine qp (K.fieldAddr_lit fo_44_1 rfl) ?_
    refine K.seq_sil (K.load1_own one_3 rfl (K.m4) rfl) rfl ?_
    refine zN ?_
    refine qp (K.eql rfl rfl) ?_
    refine qm ?_
    refine K.split 68 rfl (fun hg68 => ?_) (fun hg68 => ?_)
    · try replace hg68 := of_decide_eq_true hg68
      refine qp (K.fieldAddr_lit fo_44_2 rfl) ?_
      refine K.seq_sil (K.load1_own one_3 rfl (K.m4) rfl) rfl ?_
      refine zN ?_
      refine qp (K.neq rfl rfl) ?_
      refine qp (K.pick_t rfl) ?_
      refine qp (K.pick_f rfl) ?_
      refine qa ?_
      refine sn ?_
      refine K.cond rfl (fun ht59 => ?_) (fun ht59 => ?_)
      · try replace ht59 := of_decide_eq_true ht59
        refine sr ?_
        refine qm ?_
        iterate 3 refine qa ?_
        refine sn ?_
        refine K.ret ?_
        refine K.ret_block ?_
        refine K.ret_then ?_
        refine K.ret_block ?_
        refine K.ret_then ?_
        refine K.ret_then ?_
        refine K.ret_block ?_
        refine K.ret_then ?_
        refine K.end_ret (fun w _ => K.res_ttt rfl w) ?_
        have hv : rvE r k = 2 := by rw [rv_p hnm hfr]; exact pos_2 (by omega) (by omega) (by omega)
        exact K.gives (by rw [chk_at (by omega) hk hall (by rw [hv]; decide), hv]; rfl)
      try replace ht59 := of_decide_eq_false ht59
      refine K.skip ?_
      refine K.norm_block ?_
      refine K.norm_then ?_
      refine sr ?_
      refine qp (K.fieldAddr_lit fo_44_1 rfl) ?_
      refine K.seq_sil (K.load1_own one_3 rfl (K.m4) rfl) rfl ?_
      refine zN ?_
      refine qp (K.eql rfl rfl) ?_
      refine sn ?_
      refine K.cond rfl (fun ht77 => ?_) (fun ht77 => ?_)
      · try replace ht77 := of_decide_eq_true ht77
        have hrv : rvE r k = 0 := by rw [rv_p hnm hfr]; exact pos_0 (by omega) (by omega) (by omega)
        refine sr ?_
        refine qm ?_
        refine qp (K.add_i64 rfl rfl (by omega)) ?_
        refine qa ?_
        refine sn ?_
        refine sr ?_
        refine qm ?_
        refine qp (K.eql rfl rfl) ?_
        refine sn ?_
        refine K.cond rfl (fun ht81 => ?_) (fun ht81 => ?_)
        · try replace ht81 := of_decide_eq_true ht81
          refine K.region_lit ?_
          refine qm ?_
          refine qa ?_
          refine K.seq_nil ?_
          refine K.norm_block ?_
          refine K.norm_then ?_
          refine K.region_lit ?_
          refine qp (K.add_i64 rfl rfl (by omega)) ?_
          refine qm ?_
          refine K.seq_nil ?_
          have hl1 : (mouS r k).length = 1 := by omega
          have hg1 : ((mouS r (k + 1)).getD 1 0 : Nat) = k := by
            rw [mou_s ht77]
            obtain ⟨a, ha⟩ := List.length_eq_one_iff.1 hl1
            rw [ha]; rfl
          have hl2 : (((mouS r (k + 1)).length : Nat) : Int) = ((mouS r k).length : Int) + 1 := by rw [mou_s ht77, List.length_append]; rfl
          exact K.round_endW (L'' := [K.mq b16 none (kvS r k ++ [(Value.string (r.getD k default).nm, 1)])]) [.int .i64 (((mouS r k).length : Int) + 1), .int .i64 (k : Int), .int .i64 ((k : Int) + 1)] ⟨k + 1, by rw [hl2, hg1]; rfl, by rw [kv_s hk], by omega, K.lt_succ_case hall hrv⟩ (by simp [K.nth, intOf]; omega) (List.Sublist.cons _ (List.Sublist.cons _ (List.Sublist.cons _ (List.Sublist.cons_cons _ (List.nil_sublist _))))) (by kernel_rfl)
        try replace ht81 := of_decide_eq_false ht81
        refine K.skip ?_
        refine K.norm_block ?_
        refine K.norm_then ?_
        refine K.region_lit ?_
        refine qp (K.add_i64 rfl rfl (by omega)) ?_
        refine qm ?_
        refine K.seq_nil ?_
        have hg1 : ((mouS r (k + 1)).getD 1 0 : Nat) = (mouS r k).getD 1 0 := by
          rw [mou_s ht77]
          exact mou_g (by omega)
        have hl2 : (((mouS r (k + 1)).length : Nat) : Int) = ((mouS r k).length : Int) + 1 := by rw [mou_s ht77, List.length_append]; rfl
        exact K.round_endW (L'' := [K.mq b16 none (kvS r k ++ [(Value.string (r.getD k default).nm, 1)])]) [.int .i64 (((mouS r k).length : Int) + 1), .int .i64 (((mouS r k).getD 1 0 : Nat) : Int), .int .i64 ((k : Int) + 1)] ⟨k + 1, by rw [hl2, hg1]; rfl, by rw [kv_s hk], by omega, K.lt_succ_case hall hrv⟩ (by simp [K.nth, intOf]; omega) (List.Sublist.cons _ (List.Sublist.cons _ (List.Sublist.cons _ (List.Sublist.cons_cons _ (List.nil_sublist _))))) (by kernel_rfl)
      try replace ht77 := of_decide_eq_false ht77
      have hrv : rvE r k = 0 := by rw [rv_p hnm hfr]; exact pos_0 (by omega) (by omega) (by omega)
      refine K.skip ?_
      refine K.norm_block ?_
      refine K.norm_then ?_
      refine K.region_lit ?_
      refine qp (K.add_i64 rfl rfl (by omega)) ?_
      refine qm ?_
      refine K.seq_nil ?_
      have hg1 : ((mouS r (k + 1)).getD 1 0 : Nat) = (mouS r k).getD 1 0 := by rw [mou_n ht77]
      have hl2 : (((mouS r (k + 1)).length : Nat) : Int) = ((mouS r k).length : Int) := by rw [mou_n ht77]
      exact K.round_endW (L'' := [K.mq b16 none (kvS r k ++ [(Value.string (r.getD k default).nm, 1)])]) [.int .i64 ((mouS r k).length : Int), .int .i64 (((mouS r k).getD 1 0 : Nat) : Int), .int .i64 ((k : Int) + 1)] ⟨k + 1, by rw [hl2, hg1]; rfl, by rw [kv_s hk], by omega, K.lt_succ_case hall hrv⟩ (by simp [K.nth, intOf]; omega) (List.Sublist.cons _ (List.Sublist.cons _ (List.Sublist.cons _ (List.Sublist.cons_cons _ (List.nil_sublist _))))) (by kernel_rfl)
    try replace hg68 := of_decide_eq_false hg68
    iterate 3 refine qs ?_
    refine qp (K.pick_f rfl) ?_
    refine qp (K.pick_f rfl) ?_
    refine qa ?_
    refine sn ?_
    refine K.cond_false rfl ?_
    refine K.skip ?_
    refine K.norm_block ?_
    refine K.norm_then ?_
    refine sr ?_
    refine qp (K.fieldAddr_lit fo_44_1 rfl) ?_
    refine K.seq_sil (K.load1_own one_3 rfl (K.m4) rfl) rfl ?_
    refine zN ?_
    refine qp (K.eql rfl rfl) ?_
    refine sn ?_
    refine K.cond rfl (fun ht77 => ?_) (fun ht77 => ?_)
    · try replace ht77 := of_decide_eq_true ht77
      have hrv : rvE r k = 0 := by rw [rv_p hnm hfr]; exact pos_0 (by omega) (by omega) (by omega)
      refine sr ?_
      refine qm ?_
      refine qp (K.add_i64 rfl rfl (by omega)) ?_
      refine qa ?_
      refine sn ?_
      refine sr ?_
      refine qm ?_
      refine qp (K.eql rfl rfl) ?_
      refine sn ?_
      refine K.cond rfl (fun ht81 => ?_) (fun ht81 => ?_)
      · try replace ht81 := of_decide_eq_true ht81
        refine K.region_lit ?_
        refine qm ?_
        refine qa ?_
        refine K.seq_nil ?_
        refine K.norm_block ?_
        refine K.norm_then ?_
        refine K.region_lit ?_
        refine qp (K.add_i64 rfl rfl (by omega)) ?_
        refine qm ?_
        refine K.seq_nil ?_
        have hl1 : (mouS r k).length = 1 := by omega
        have hg1 : ((mouS r (k + 1)).getD 1 0 : Nat) = k := by
          rw [mou_s ht77]
          obtain ⟨a, ha⟩ := List.length_eq_one_iff.1 hl1
          rw [ha]; rfl
        have hl2 : (((mouS r (k + 1)).length : Nat) : Int) = ((mouS r k).length : Int) + 1 := by rw [mou_s ht77, List.length_append]; rfl
        exact K.round_endW (L'' := [K.mq b16 none (kvS r k ++ [(Value.string (r.getD k default).nm, 1)])]) [.int .i64 (((mouS r k).length : Int) + 1), .int .i64 (k : Int), .int .i64 ((k : Int) + 1)] ⟨k + 1, by rw [hl2, hg1]; rfl, by rw [kv_s hk], by omega, K.lt_succ_case hall hrv⟩ (by simp [K.nth, intOf]; omega) (List.Sublist.cons _ (List.Sublist.cons _ (List.Sublist.cons _ (List.Sublist.cons_cons _ (List.nil_sublist _))))) (by kernel_rfl)
      try replace ht81 := of_decide_eq_false ht81
      refine K.skip ?_
      refine K.norm_block ?_
      refine K.norm_then ?_
      refine K.region_lit ?_
      refine qp (K.add_i64 rfl rfl (by omega)) ?_
      refine qm ?_
      refine K.seq_nil ?_
      have hg1 : ((mouS r (k + 1)).getD 1 0 : Nat) = (mouS r k).getD 1 0 := by
        rw [mou_s ht77]
        exact mou_g (by omega)
      have hl2 : (((mouS r (k + 1)).length : Nat) : Int) = ((mouS r k).length : Int) + 1 := by rw [mou_s ht77, List.length_append]; rfl
      exact K.round_endW (L'' := [K.mq b16 none (kvS r k ++ [(Value.string (r.getD k default).nm, 1)])]) [.int .i64 (((mouS r k).length : Int) + 1), .int .i64 (((mouS r k).getD 1 0 : Nat) : Int), .int .i64 ((k : Int) + 1)] ⟨k + 1, by rw [hl2, hg1]; rfl, by rw [kv_s hk], by omega, K.lt_succ_case hall hrv⟩ (by simp [K.nth, intOf]; omega) (List.Sublist.cons _ (List.Sublist.cons _ (List.Sublist.cons _ (List.Sublist.cons_cons _ (List.nil_sublist _))))) (by kernel_rfl)
    try replace ht77 := of_decide_eq_false ht77
    have hrv : rvE r k = 0 := by rw [rv_p hnm hfr]; exact pos_0 (by omega) (by omega) (by omega)
    refine K.skip ?_
    refine K.norm_block ?_
    refine K.norm_then ?_
    refine K.region_lit ?_
    refine qp (K.add_i64 rfl rfl (by omega)) ?_
    refine qm ?_
    refine K.seq_nil ?_
    have hg1 : ((mouS r (k + 1)).getD 1 0 : Nat) = (mouS r k).getD 1 0 := by rw [mou_n ht77]
    have hl2 : (((mouS r (k + 1)).length : Nat) : Int) = ((mouS r k).length : Int) := by rw [mou_n ht77]
    exact K.round_endW (L'' := [K.mq b16 none (kvS r k ++ [(Value.string (r.getD k default).nm, 1)])]) [.int .i64 ((mouS r k).length : Int), .int .i64 (((mouS r k).getD 1 0 : Nat) : Int), .int .i64 ((k : Int) + 1)] ⟨k + 1, by rw [hl2, hg1]; rfl, by rw [kv_s hk], by omega, K.lt_succ_case hall hrv⟩ (by simp [K.nth, intOf]; omega) (List.Sublist.cons _ (List.Sublist.cons _ (List.Sublist.cons _ (List.Sublist.cons_cons _ (List.nil_sublist _))))) (by kernel_rfl)
  try replace ht21 := of_decide_eq_false ht21
  refine K.exit ?_
  refine K.exit_then ?_
  refine K.exit_then ?_
  refine K.exit_here ?_
  refine K.norm_then ?_
  refine K.seq ?_
  refine K.block ?_
  refine K.seq ?_
  have hln : 1 ≤ r.length ∧ r.length ≤ 9 := by omega
  have hf0 : (K.fst (rvE r) (List.range r.length)).2 = 0 := fst_0 (fun j hj => hall j (by omega))
  obtain rfl : k = r.length := by omega
  have hdn : ∀ i, i < r.length → -1 ≤ (r.getD i default).dn ∧ (r.getD i default).dn ≤ (r.length : Int) - 1 := fun i hi => (pos_ok (rv_ok (hall i hi)).2.2).2.1
  refine K.region_lit ?_
  refine qm ?_
  refine qp (K.eql rfl rfl) ?_
  refine qa ?_
  refine sn ?_
  refine K.cond rfl (fun ht84 => ?_) (fun ht84 => ?_)
  · try replace ht84 := of_decide_eq_true ht84
    refine sr ?_
    iterate 3 refine qa ?_
    refine sn ?_
    refine K.ret ?_
    refine K.ret_block ?_
    refine K.ret_then ?_
    refine K.end_ret (fun w _ => K.res_ttt rfl w) ?_
    exact K.gives (by rw [chk_3 hln hf0 (by omega)]; rfl)
  try replace ht84 := of_decide_eq_false ht84
  refine sr ?_
  refine qm ?_
  refine qp (K.gtr rfl rfl) ?_
  refine qa ?_
  refine sn ?_
  refine K.cond rfl (fun ht87 => ?_) (fun ht87 => ?_)
  · try replace ht87 := of_decide_eq_true ht87
    refine sr ?_
    refine qm ?_
    iterate 3 refine qa ?_
    refine sn ?_
    refine K.ret ?_
    refine K.ret_block ?_
    refine K.ret_then ?_
    refine K.end_ret (fun w _ => K.res_ttt rfl w) ?_
    exact K.gives (by rw [chk_4 hln hf0 (by omega)]; rfl)
  try replace ht87 := of_decide_eq_false ht87
  refine K.skip ?_
  refine K.norm_block ?_
  refine K.norm_then ?_
  refine K.seq ?_
  refine sr ?_
  refine qm ?_
  refine qp (K.len_sl sl_22 rfl) ?_
  refine qm ?_
  refine sn ?_
  refine K.block ?_
  refine K.loopW [93] [2, 3, 4, 10, 11, 94, 95, 96, 97, 98, 99, 100, 101, 102, 103, 104, 105, 106, 107, 108, 109, 110, 111, 112, 113, 114, 115, 116, 117, 118, 119, 120] (fun vi L => ∃ i : Nat, vi = [.int .i64 (i : Int)] ∧ L = [K.mq b16 none (kvS r r.length)] ∧ i ≤ r.length ∧ ∀ j, j < i → reaB r j = true) (fun vi => r.length - (intOf (K.nth vi 0)).toNat) ?_ ?_
  · exact ⟨0, rfl, rfl, Nat.zero_le _, fun j hj => absurd hj (Nat.not_lt_zero j)⟩
  intro vi vr L hJ
  obtain ⟨i, rfl, rfl, hin, hrea⟩ := hJ
  try dsimp only [setd, setn, ev, nth, over, cl, eI, eP, eT, eR, setM, setF, List.map, List.append, List.drop, List.take]
  refine sr ?_
  refine qp (K.lss rfl rfl) ?_
  refine sn ?_
  refine K.seq ?_
  refine K.cond rfl (fun ht94 => ?_) (fun ht94 => ?_)
  · try replace ht94 := of_decide_eq_true ht94
    have hi : i < r.length := by omega
    refine K.skip ?_
    refine K.norm_then ?_
    refine K.seq ?_
    refine K.block ?_
    refine sr ?_
    refine qm ?_
    refine qa ?_
    refine sn ?_
    refine sr ?_
    refine qm ?_
    refine qa ?_
    refine sn ?_
    refine K.seq ?_
    refine sr ?_
    refine qm ?_
    refine qp (K.len_sl sl_22 rfl) ?_
    refine qm ?_
    refine sn ?_
    refine K.block ?_
    refine K.loopW [11, 99] [100, 101, 102, 103, 104, 105, 106, 107, 108, 109, 110, 111, 112] (fun vi L => ∃ a : Nat, vi = [.int .i64 ((stps r a i : Nat) : Int), .int .i64 (a : Int)] ∧ L = [K.mq b16 none (kvS r r.length)] ∧ a ≤ r.length) (fun vi => r.length - (intOf (K.nth vi 1)).toNat) ?_ ?_
    · exact ⟨0, rfl, rfl, Nat.zero_le _⟩
    intro vi vr L hJ
    obtain ⟨a, rfl, rfl, han⟩ := hJ
    try dsimp only [setd, setn, ev, nth, over, cl, eI, eP, eT, eR, setM, setF, List.map, List.append, List.drop, List.take]
    refine sr ?_
    refine qp (K.lss rfl rfl) ?_
    refine sn ?_
    refine K.seq ?_
    refine K.cond rfl (fun ht100 => ?_) (fun ht100 => ?_)
    · try replace ht100 := of_decide_eq_true ht100
      have hal : a < r.length := by omega
      have hsl := stps_in hdn hi a
      have hsd := hdn _ hsl
      refine K.skip ?_
      refine K.norm_then ?_
      refine K.seq ?_
      refine K.block ?_
      refine sr ?_
      iterate 2 refine qm ?_
      refine K.seq_ix (M := []) (stps r a i) hR.sl sl_22 rfl rfl (by omega) (by omega) rfl ?_
      intro p103 hp103
      refine zN ?_
      refine qp (K.fieldAddr fo_44_1 rfl) ?_
      refine K.seq_sil (K.load1 one_3 rfl ((K.PtrL.fld hp103 (k := 1)).any)) rfl ?_
      refine zN ?_
      refine qp (K.neq rfl rfl) ?_
      refine sn ?_
      refine K.cond rfl (fun ht106 => ?_) (fun ht106 => ?_)
      · try replace ht106 := of_decide_eq_true ht106
        refine K.region_lit ?_
        iterate 2 refine qm ?_
        refine K.seq_ix (M := []) (stps r a i) hR.sl sl_22 rfl rfl (by omega) (by omega) rfl ?_
        intro p109 hp109
        refine zN ?_
        refine qp (K.fieldAddr fo_44_1 rfl) ?_
        refine K.seq_sil (K.load1 one_3 rfl ((K.PtrL.fld hp109 (k := 1)).any)) rfl ?_
        refine zN ?_
        refine qa ?_
        refine K.seq_nil ?_
        refine K.norm_block ?_
        refine K.norm_then ?_
        refine K.region_lit ?_
        refine qp (K.add_i64 rfl rfl (by omega)) ?_
        refine qm ?_
        refine K.seq_nil ?_
        have hst1 : ((stps r (a + 1) i : Nat) : Int) = (r.getD (stps r a i) default).dn := by rw [stps_up ht106]; omega
        exact K.round_endW (L'' := [K.mq b16 none (kvS r r.length)]) [.int .i64 (r.getD (stps r a i) default).dn, .int .i64 ((a : Int) + 1)] ⟨a + 1, by rw [hst1]; rfl, rfl, by omega⟩ (by simp [K.nth, intOf]; omega) (List.Sublist.refl _) (by kernel_rfl)
      try replace ht106 := of_decide_eq_false ht106
      refine K.skip ?_
      refine K.norm_block ?_
      refine K.norm_then ?_
      refine K.region_lit ?_
      refine qp (K.add_i64 rfl rfl (by omega)) ?_
      refine qm ?_
      refine K.seq_nil ?_
      exact K.round_endW (L'' := [K.mq b16 none (kvS r r.length)]) [.int .i64 ((stps r a i : Nat) : Int), .int .i64 ((a : Int) + 1)] ⟨a + 1, by rw [stps_st (Decidable.not_not.1 ht106)]; rfl, rfl, by omega⟩ (by simp [K.nth, intOf]; omega) (List.Sublist.refl _) (by kernel_rfl)
    try replace ht100 := of_decide_eq_false ht100
    refine K.exit ?_
    refine K.exit_then ?_
    refine K.exit_then ?_
    refine K.exit_here ?_
    refine K.norm_then ?_
    refine K.seq ?_
    have haa : a = r.length := by omega
    subst haa
    have hsl := stps_in hdn hi r.length
    refine K.region_lit ?_
    iterate 2 refine qm ?_
    refine K.seq_ix (M := []) (stps r r.length i) hR.sl sl_22 rfl rfl (by omega) (by omega) rfl ?_
    intro p115 hp115
    refine zN ?_
    refine qp (K.fieldAddr fo_44_1 rfl) ?_
    refine K.seq_sil (K.load1 one_3 rfl ((K.PtrL.fld hp115 (k := 1)).any)) rfl ?_
    refine zN ?_
    refine qp (K.neq rfl rfl) ?_
    refine sn ?_
    refine K.cond rfl (fun ht118 => ?_) (fun ht118 => ?_)
    · try replace ht118 := of_decide_eq_true ht118
      have hsx : True := trivial
      refine sr ?_
      refine qm ?_
      iterate 3 refine qa ?_
      refine sn ?_
      refine K.ret ?_
      refine K.ret_block ?_
      refine K.ret_then ?_
      refine K.ret_then ?_
      refine K.ret_block ?_
      refine K.ret_then ?_
      refine K.end_ret (fun w _ => K.res_ttt rfl w) ?_
      have hre : reaB r i = false := decide_eq_false ht118
      exact K.gives (by rw [chk_5 hln hf0 (by omega) hi hrea hre]; rfl)
    try replace ht118 := of_decide_eq_false ht118
    refine K.skip ?_
    refine K.norm_block ?_
    refine K.norm_then ?_
    refine K.region_lit ?_
    refine qp (K.add_i64 rfl rfl (by omega)) ?_
    refine qm ?_
    refine K.seq_nil ?_
    have hre : reaB r i = true := decide_eq_true (Decidable.not_not.1 ht118)
    exact K.round_endW (L'' := [K.mq b16 none (kvS r r.length)]) [.int .i64 ((i : Int) + 1)] ⟨i + 1, rfl, rfl, by omega, K.lt_succ_case hrea hre⟩ (by simp [K.nth, intOf]; omega) (List.Sublist.refl _) (by kernel_rfl)
  try replace ht94 := of_decide_eq_false ht94
  refine K.exit ?_
  refine K.exit_then ?_
  refine K.exit_then ?_
  refine K.exit_here ?_
  refine K.norm_then ?_
  refine sr ?_
  iterate 3 refine qa ?_
  refine sn ?_
  refine K.ret ?_
  refine K.end_ret (fun w _ => K.res_ttt rfl w) ?_
  exact K.gives (by rw [chk_0 hln hf0 (by omega) (fun j hj => hrea j (by omega))]; rfl)

end Go.Proofs.YtoemnobfnnjopaaDoor
