/-
  Walks of the program's functions, printed by program: what each returns.
  Conditions stand in each theorem.
-/
import Derived.WalkArith
import Derived.Laws.Closers25b
import Derived.Test.YthkgnhcknkjgdaaDoorWb
import Derived.Test.YthkgnhcknkjgdaaDoorK3
set_option linter.unusedSimpArgs false
set_option linter.unusedVariables false
namespace Go.Proofs.YthkgnhcknkjgdaaDoor
open Go.RowKit Go
open Go.K (setd setn ev nth over cl eI eP eT setM setF)
attribute [local irreducible] K.blk K.row
theorem laidOut : laidOutB Tryd.prog = true := by kernel_rfl
theorem sizeT : Tryd.prog.types.size = 167 := by kernel_rfl
theorem row80 : 80 < Tryd.prog.types.size := by rw [sizeT]; decide
theorem key80 : Tryd.prog.keyTypeAt 10 80 = true := by kernel_rfl
theorem wide80 : (match Tryd.prog.underlying 80 with | some (.array _ _) | some (.struct _) => true | _ => false) = true := by kernel_rfl
theorem ulM : Tryd.prog.underlying 78 = some (.map 80 3) := by kernel_rfl
theorem k2_80 : K.key2 Tryd.prog 80 = true := by kernel_rfl
set_option maxRecDepth 100000 in
theorem mapT : K.MapT Tryd.prog 78 80 := ⟨⟨3, ulM, fun w => by kernel_rfl⟩, deep_law_laid laidOut (m := 10) (by omega) row80 key80 wide80⟩
theorem form80 (x y : Int) : (Value.agg #[.int .i64 x, .int .i64 y]).formed Tryd.prog 80 = true := by kernel_rfl
theorem keyOf80 {x y : Int} (hx : -1000 ≤ x ∧ x ≤ 1000) (hy : -1000 ≤ y ∧ y ≤ 1000) : ∃ q, keyOf Tryd.prog 80 (.agg #[.int .i64 x, .int .i64 y]) = some q :=
  K.keyOf_2 k2_80 (by rw [sizeT]; decide) (form80 x y) (WalkArith.wf_i64 (by omega)) (WalkArith.wf_i64 (by omega))
/-- Pins that are all right. -/
theorem pin_0 {W D : Int} {ps : List PinT} {i : Nat} (h : pinE W D ps i = 0) : onF W D (ps.getD i default).x (ps.getD i default).y := by
  unfold pinE at h
  split at h
  · cases h
  split at h
  · cases h
  split at h
  · cases h
  · rename_i _ _ h3; exact Decidable.not_not.1 h3
theorem keysOk {W D : Int} {ps : List PinT} {k : Nat} (hW : W ≤ 8) (hD : D ≤ 8) (hk : k ≤ ps.length) (h : ∀ j, j < k → pinE W D ps j = 0) : ∀ p ∈ (ps.take k).map (fun p => (Value.agg #[.int .i64 p.x, .int .i64 p.y], (1 : Int))), ∃ q, keyOf Tryd.prog 80 p.1 = some q := by
  intro p hp
  obtain ⟨x, hx, rfl⟩ := List.mem_map.1 hp
  obtain ⟨j, hj, rfl⟩ := List.mem_take_iff_getElem.1 hx
  have h1 := pin_0 (h j (by omega))
  rw [List.getD_eq_getElem?_getD, List.getElem?_eq_getElem (by omega)] at h1
  simp only [Option.getD_some, onF] at h1
  exact keyOf80 (by omega) (by omega)
theorem key_in {ps : List PinT} {k : Nat} {x y n : Int} (h : (Value.agg #[.int .i64 x, .int .i64 y], n) ∈ (ps.take k).map (fun p => (Value.agg #[.int .i64 p.x, .int .i64 p.y], (1 : Int)))) : n = 1 ∧ (ps.take k).any (atP x y) = true := by
  obtain ⟨p, hp, h2⟩ := List.mem_map.1 h
  simp only [Prod.mk.injEq, Value.agg.injEq] at h2
  obtain ⟨h2, h3⟩ := h2
  have h4 : p.x = x ∧ p.y = y := by simpa using h2
  exact ⟨h3.symm, List.any_eq_true.2 ⟨p, hp, decide_eq_true h4⟩⟩
theorem key_out {ps : List PinT} {k : Nat} {x y : Int} (h : ∀ p ∈ (ps.take k).map (fun p => (Value.agg #[.int .i64 p.x, .int .i64 p.y], (1 : Int))), p.1 ≠ Value.agg #[.int .i64 x, .int .i64 y]) : (ps.take k).any (atP x y) = false := by
  rw [List.any_eq_false]
  intro p hp hc
  have hc' : p.x = x ∧ p.y = y := by simpa [atP] using hc
  refine h _ (List.mem_map_of_mem hp) ?_
  rw [hc'.1, hc'.2]
theorem key_look {ps : List PinT} {k : Nat} {x y c : Int} (h : (c = 0 ∧ ∀ p ∈ (ps.take k).map (fun p => (Value.agg #[.int .i64 p.x, .int .i64 p.y], (1 : Int))), p.1 ≠ Value.agg #[.int .i64 x, .int .i64 y]) ∨ (Value.agg #[.int .i64 x, .int .i64 y], c) ∈ (ps.take k).map (fun p => (Value.agg #[.int .i64 p.x, .int .i64 p.y], (1 : Int)))) :
    (ps.take k).any (atP x y) = decide (c > 0) ∧ (0 ≤ c ∧ c ≤ 1) := by
  rcases h with ⟨rfl, h⟩ | h
  · exact ⟨by rw [key_out h]; rfl, by omega⟩
  · obtain ⟨rfl, h1⟩ := key_in h
    exact ⟨by rw [h1]; rfl, by omega⟩
theorem modify_end {E : Type} {f : E → E} : ∀ (xs : List E) (a : E), (xs ++ [a]).modify xs.length f = xs ++ [f a]
  | [], _ => rfl
  | x :: xs, a => by
    have := modify_end (f := f) xs a
    simpa using this
theorem key_c0 {ps : List PinT} {k : Nat} {x y c : Int} (hn : (ps.take k).any (atP x y) = false) (h : (c = 0 ∧ ∀ p ∈ (ps.take k).map (fun p => (Value.agg #[.int .i64 p.x, .int .i64 p.y], (1 : Int))), p.1 ≠ Value.agg #[.int .i64 x, .int .i64 y]) ∨ (Value.agg #[.int .i64 x, .int .i64 y], c) ∈ (ps.take k).map (fun p => (Value.agg #[.int .i64 p.x, .int .i64 p.y], (1 : Int)))) : c = 0 := by
  obtain ⟨h1, h2⟩ := key_look h
  rw [hn] at h1
  have := of_decide_eq_false h1.symm
  omega
theorem key_c1 {ps : List PinT} {k j : Nat} {x y c : Int} (hn : (ps.take k).any (atP x y) = false)
    (h : (c = 0 ∧ ∀ p ∈ K.entQ ((ps.take k).map (fun p => (Value.agg #[.int .i64 p.x, .int .i64 p.y], (1 : Int)))) (Value.agg #[.int .i64 x, .int .i64 y]) j, p.1 ≠ Value.agg #[.int .i64 x, .int .i64 y]) ∨ (Value.agg #[.int .i64 x, .int .i64 y], c) ∈ K.entQ ((ps.take k).map (fun p => (Value.agg #[.int .i64 p.x, .int .i64 p.y], (1 : Int)))) (Value.agg #[.int .i64 x, .int .i64 y]) j) : c = 0 := by
  rcases h with ⟨h, _⟩ | h
  · exact h
  · unfold K.entQ at h
    split at h
    · obtain ⟨_, h1⟩ := key_in h
      rw [h1] at hn; cases hn
    · rcases List.mem_append.1 h with h | h
      · obtain ⟨_, h1⟩ := key_in h
        rw [h1] at hn; cases hn
      · simp at h; exact h
theorem keysE {W D : Int} {ps : List PinT} {k j : Nat} {x y : Int} (hW : W ≤ 8) (hD : D ≤ 8) (hk : k ≤ ps.length) (h : ∀ j, j < k → pinE W D ps j = 0) (hF : onF W D x y) : ∀ p ∈ K.entQ ((ps.take k).map (fun p => (Value.agg #[.int .i64 p.x, .int .i64 p.y], (1 : Int)))) (Value.agg #[.int .i64 x, .int .i64 y]) j, ∃ q, keyOf Tryd.prog 80 p.1 = some q := by
  intro p hp
  unfold K.entQ at hp
  split at hp
  · exact keysOk hW hD hk h p hp
  · rcases List.mem_append.1 hp with hp | hp
    · exact keysOk hW hD hk h p hp
    · simp at hp; subst hp
      simp only [onF] at hF
      exact keyOf80 (by omega) (by omega)
theorem key_next {ps : List PinT} {k j : Nat} {c v : Int} (hk : k < ps.length) (hn : (ps.take k).any (atP (ps.getD k default).x (ps.getD k default).y) = false) (hc : c = 0)
    (h : (j = ((ps.take k).map (fun p => (Value.agg #[.int .i64 p.x, .int .i64 p.y], (1 : Int)))).length ∧ v = 0 ∧ ∀ p ∈ (ps.take k).map (fun p => (Value.agg #[.int .i64 p.x, .int .i64 p.y], (1 : Int))), p.1 ≠ Value.agg #[.int .i64 (ps.getD k default).x, .int .i64 (ps.getD k default).y]) ∨ ((ps.take k).map (fun p => (Value.agg #[.int .i64 p.x, .int .i64 p.y], (1 : Int))))[j]? = some (Value.agg #[.int .i64 (ps.getD k default).x, .int .i64 (ps.getD k default).y], v)) :
    (K.entQ ((ps.take k).map (fun p => (Value.agg #[.int .i64 p.x, .int .i64 p.y], (1 : Int)))) (Value.agg #[.int .i64 (ps.getD k default).x, .int .i64 (ps.getD k default).y]) j).modify j (fun p => (p.1, c + 1)) = (ps.take (k + 1)).map (fun p => (Value.agg #[.int .i64 p.x, .int .i64 p.y], (1 : Int))) := by
  rcases h with ⟨rfl, _, _⟩ | h
  · rw [take_succ_map _ hk, K.entQ, if_neg (Nat.lt_irrefl _), hc]
    exact modify_end _ _
  · obtain ⟨_, h1⟩ := key_in (List.mem_of_getElem? h)
    rw [h1] at hn; cases hn

set_option maxRecDepth 100000 in
theorem c55 {q x : PinT} {p : Addr} {w : World} (hp : K.PtrL w [] p (eN x)) :
    Calls Tryd.prog 55 [.agg #[.string q.nm, .int .i64 q.x, .int .i64 q.y, .int .i64 q.len, .int .i64 q.most], .pointer (some p)].toArray w (K.Gives (.bool (nmEq q.nm x.nm)) w) := by
  refine K.enter (args := [.agg #[.string q.nm, .int .i64 q.x, .int .i64 q.y, .int .i64 q.len, .int .i64 q.most], .pointer (some p)]) Tryd.func55 rfl (n := 7) rfl ?_
  simp only [List.replicate, List.cons_append, List.nil_append]
  refine sr ?_
  refine K.seq_new (K.box) rfl ?_
  intro b2
  refine zN ?_
  refine qa ?_
  refine sn ?_
  refine sr ?_
  refine qp (K.fieldAddr_lit fo_54_0 rfl) ?_
  refine K.seq_sil (K.load1_own one_9 rfl (K.m0) rfl) rfl ?_
  refine zN ?_
  refine qp (K.fieldAddr fo_54_0 rfl) ?_
  refine K.seq_sil (K.load1 one_9 rfl ((K.PtrL.fld hp (k := 0)).any)) rfl ?_
  refine zN ?_
  refine qp (K.eql_s rfl rfl) ?_
  refine qa ?_
  refine sn ?_
  refine K.ret ?_
  refine K.end_ret (fun w _ => K.res_tmp rfl w) ?_
  exact K.gives rfl

set_option maxRecDepth 100000 in
theorem c16 {m : Mod} {A B C : Option Addr} {c d e : Nat} {w : World} (hH : K.Rd w A 1 K.eI m.hs) (hP : K.Rd w B 5 eN m.ps) (hS : K.Rd w C 4 eS m.ss) (hn : m.hs.length ≤ 4611686018427387904) (hm : m.ps.length ≤ 4611686018427387904) (hk : m.ss.length ≤ 4611686018427387904) (hcd : m.ps.length ≤ d) :
    Calls Tryd.prog 16 [.agg #[.int .i64 m.W, .int .i64 m.D, .slice A m.hs.length c, .slice B m.ps.length d, .slice C m.ss.length e]].toArray w (K.Gives (K.tup3 (chk m)) w) := by
  refine K.enter (args := [.agg #[.int .i64 m.W, .int .i64 m.D, .slice A m.hs.length c, .slice B m.ps.length d, .slice C m.ss.length e]]) Tryd.func16 rfl (n := 149) rfl ?_
  simp only [List.replicate, List.cons_append, List.nil_append]
  refine sr ?_
  refine K.seq_new (K.box) rfl ?_
  intro b1
  refine zN ?_
  iterate 3 refine qa ?_
  refine sn ?_
  refine K.seq ?_
  refine K.block ?_
  refine sr ?_
  refine qp (K.fieldAddr_lit fo_26_0 rfl) ?_
  refine K.seq_sil (K.load1_own one_3 rfl (K.m0) rfl) rfl ?_
  refine zN ?_
  refine qp (K.fieldAddr_lit fo_26_1 rfl) ?_
  refine K.seq_sil (K.load1_own one_3 rfl (K.m0) rfl) rfl ?_
  refine zN ?_
  refine K.seq_new (K.buildSlice (bs2 _ _)) rfl ?_
  intro b17
  refine zN ?_
  refine K.seq_call (K.call_g cal_50 (fun F w hF hw => c50_2 hw (hF _ (K.m0)))) rfl ?_
  refine zN ?_
  refine qa ?_
  refine sn ?_
  refine K.cond rfl (fun ht12 => ?_) (fun ht12 => ?_)
  · try replace ht12 := of_decide_eq_true ht12
    refine sr ?_
    iterate 3 refine qa ?_
    refine sn ?_
    refine K.ret ?_
    refine K.ret_block ?_
    refine K.ret_then ?_
    refine K.end_ret (fun w _ => K.res_ttt rfl w) ?_
    exact K.gives (by rw [chk_1 (by omega)]; rfl)
  try replace ht12 := of_decide_eq_false ht12
  have hWD : (1 ≤ m.W ∧ m.W ≤ 8) ∧ (1 ≤ m.D ∧ m.D ≤ 8) := by omega
  have hwd := wd_bd hWD
  refine sr ?_
  refine qp (K.fieldAddr_lit fo_26_2 rfl) ?_
  refine K.seq_sil (K.load1_own one_22 rfl (K.m1) rfl) rfl ?_
  refine zN ?_
  refine qp (K.len_sl sl_22 rfl) ?_
  refine qp (K.fieldAddr_lit fo_26_0 rfl) ?_
  refine K.seq_sil (K.load1_own one_3 rfl (K.m1) rfl) rfl ?_
  refine zN ?_
  refine qp (K.fieldAddr_lit fo_26_1 rfl) ?_
  refine K.seq_sil (K.load1_own one_3 rfl (K.m1) rfl) rfl ?_
  refine zN ?_
  refine qp (K.mul_i64 rfl rfl (by omega)) ?_
  refine qp (K.neq rfl rfl) ?_
  refine qa ?_
  refine sn ?_
  refine K.cond rfl (fun ht19 => ?_) (fun ht19 => ?_)
  · try replace ht19 := of_decide_eq_true ht19
    refine sr ?_
    iterate 3 refine qa ?_
    refine sn ?_
    refine K.ret ?_
    refine K.ret_block ?_
    refine K.ret_then ?_
    refine K.end_ret (fun w _ => K.res_ttt rfl w) ?_
    exact K.gives (by rw [chk_2 hWD ht19]; rfl)
  try replace ht19 := of_decide_eq_false ht19
  have hl : (m.hs.length : Int) = m.W * m.D := Decidable.not_not.1 ht19
  refine K.skip ?_
  refine K.norm_block ?_
  refine K.norm_then ?_
  refine K.seq ?_
  refine sr ?_
  refine qp (K.fieldAddr_lit fo_26_2 rfl) ?_
  refine K.seq_sil (K.load1_own one_22 rfl (K.m1) rfl) rfl ?_
  refine zN ?_
  refine K.seq_call (K.call_g cal_51 (fun F w hF hw => c51 (cap := []) (p := fun h => decide (hgE h ≠ 0)) (hH.pass hw) hn cal_52 (fun x _ w1 _ => c52 w1))) rfl ?_
  refine zN ?_
  refine qa ?_
  refine sn ?_
  refine sr ?_
  refine qm ?_
  refine qp (K.geq rfl rfl) ?_
  refine sn ?_
  refine K.cond rfl (fun ht33 => ?_) (fun ht33 => ?_)
  · try replace ht33 := of_decide_eq_true ht33
    refine sr ?_
    refine qm ?_
    iterate 3 refine qa ?_
    refine sn ?_
    refine K.ret ?_
    refine K.ret_then ?_
    refine K.end_ret (fun w _ => K.res_ttt rfl w) ?_
    exact K.gives (by rw [chk_3 hWD hl (by rw [hg_idx ht33]; show (7 : Int) ≠ 0; decide), hg_idx ht33]; rfl)
  try replace ht33 := of_decide_eq_false ht33
  refine K.skip ?_
  refine K.norm_then ?_
  refine K.seq ?_
  refine sr ?_
  refine qp (K.fieldAddr_lit fo_26_3 rfl) ?_
  refine K.seq_sil (K.load1_own one_23 rfl (K.m1) rfl) rfl ?_
  refine zN ?_
  refine qp (K.len_sl sl_23 rfl) ?_
  refine qp (K.gtr rfl rfl) ?_
  refine sn ?_
  refine K.cond rfl (fun ht38 => ?_) (fun ht38 => ?_)
  · try replace ht38 := of_decide_eq_true ht38
    refine sr ?_
    iterate 3 refine qa ?_
    refine sn ?_
    refine K.ret ?_
    refine K.ret_then ?_
    refine K.end_ret (fun w _ => K.res_ttt rfl w) ?_
    exact K.gives (by rw [chk_4 hWD hl (hg_idx0 ht33) (by omega)]; rfl)
  try replace ht38 := of_decide_eq_false ht38
  refine K.skip ?_
  refine K.norm_then ?_
  refine sr ?_
  refine K.seq_new (K.mkMap_q) rfl ?_
  intro b39
  refine zN ?_
  refine qa ?_
  refine sn ?_
  refine K.seq ?_
  refine K.seq ?_
  refine K.weak (List.Sublist.cons_cons _ (List.Sublist.cons _ (List.Sublist.cons_cons _ (List.Sublist.slnil)))) ?_
  refine K.region_lit ?_
  refine qp (K.fieldAddr_lit fo_26_3 rfl) ?_
  refine K.seq_sil (K.load1_own one_23 rfl (K.m1) rfl) rfl ?_
  refine zN ?_
  refine qp (K.len_sl sl_23 rfl) ?_
  refine qm ?_
  refine sn ?_
  refine K.block ?_
  refine K.loopW [43] [2, 3, 4, 7, 8, 9, 44, 45, 46, 47, 48, 49, 50, 51, 52, 53, 54, 55, 56, 57, 58, 59, 60, 61, 62, 63, 64, 65, 66, 67, 68, 69, 70, 71, 72, 73, 74, 75, 76, 77, 78, 79, 80, 81, 82, 83, 84, 85, 86, 87, 88, 89, 90, 91, 92, 93, 94, 95, 96, 97, 98, 99, 100] (fun vi L => ∃ k : Nat, vi = [.int .i64 (k : Int)] ∧ L = [K.mq b39 none ((m.ps.take k).map fun p => (Value.agg #[.int .i64 p.x, .int .i64 p.y], (1 : Int))), K.blk b1 26 [.int .i64 m.W, .int .i64 m.D, .slice A m.hs.length c, .slice B m.ps.length d, .slice C m.ss.length e]] ∧ k ≤ m.ps.length ∧ ∀ j, j < k → pinE m.W m.D m.ps j = 0) (fun vi => m.ps.length - (intOf (K.nth vi 0)).toNat) ?_ ?_
  · exact ⟨0, rfl, rfl, Nat.zero_le _, fun j hj => absurd hj (Nat.not_lt_zero j)⟩
  intro vi vr L hJ
  obtain ⟨k, rfl, rfl, hkn, hallp⟩ := hJ
  try dsimp only [setd, setn, ev, nth, over, cl, eI, eP, eT, eN, eS, setM, setF, List.map, List.append, List.drop, List.take]
  refine sr ?_
  refine qp (K.lss rfl rfl) ?_
  refine sn ?_
  refine K.seq ?_
  refine K.cond rfl (fun ht44 => ?_) (fun ht44 => ?_)
  · try replace ht44 := of_decide_eq_true ht44
    have hk : k < m.ps.length := by omega
    have htk : (m.ps.take k).length = k := by rw [List.length_take]; omega
    refine K.skip ?_
    refine K.norm_then ?_
    refine K.seq ?_
    refine K.block ?_
    refine sr ?_
    refine qm ?_
    refine K.seq_ix (M := []) _ hP.sl sl_23 rfl rfl rfl (by omega) rfl ?_
    intro p46 hp46
    refine zN ?_
    refine K.seq_sil (K.loadA_p ag_54 rfl (hp46.any) rfl) rfl ?_
    refine zN ?_
    refine K.seq_new (K.alloc zr_54) rfl ?_
    intro b8
    refine zN ?_
    refine qa ?_
    refine K.seq_st (K.store_all sz_54 rfl rfl rfl rfl (K.rp0)) rfl ?_
    refine zN ?_
    refine sn ?_
    refine sr ?_
    refine qp (K.fieldAddr_lit fo_54_1 rfl) ?_
    refine K.seq_sil (K.load1_own one_3 rfl (K.m0) rfl) rfl ?_
    refine zN ?_
    refine qp (K.fieldAddr_lit fo_54_2 rfl) ?_
    refine K.seq_sil (K.load1_own one_3 rfl (K.m0) rfl) rfl ?_
    refine zN ?_
    refine K.seq_pure (K.build (bl80 _ _)) rfl ?_
    refine zN ?_
    refine K.seq_new (K.alloc zr_80) rfl ?_
    intro b9
    refine zN ?_
    refine K.seq_st (K.store_all sz_80 rfl rfl rfl rfl (K.rp0)) rfl ?_
    refine zN ?_
    refine sn ?_
    refine K.seq ?_
    refine K.block ?_
    refine sr ?_
    refine qp (K.fieldAddr_lit fo_54_0 rfl) ?_
    refine K.seq_sil (K.load1_own one_9 rfl (K.m1) rfl) rfl ?_
    refine zN ?_
    refine K.seq_call (K.call_g cal_53 (fun F w hF hw => c53 w)) rfl ?_
    refine zN ?_
    first | refine K.seq_pure (K.not_d rfl) rfl ?_ | refine K.seq_pure (K.not_ rfl) rfl ?_
    refine zN ?_
    refine qa ?_
    refine sn ?_
    refine K.cond rfl (fun ht53 => ?_) (fun ht53 => ?_)
    · try replace ht53 := of_decide_eq_true ht53
      refine sr ?_
      refine qm ?_
      iterate 3 refine qa ?_
      refine sn ?_
      refine K.ret ?_
      refine K.ret_block ?_
      refine K.ret_then ?_
      refine K.ret_block ?_
      refine K.ret_then ?_
      refine K.ret_then ?_
      refine K.ret_block ?_
      refine K.ret_then ?_
      refine K.end_ret (fun w _ => K.res_ttt rfl w) ?_
      have hpe : pinE m.W m.D m.ps k = 6 := pin_6 (by simpa using ht53)
      exact K.gives (by rw [chk_p hWD hl (hg_idx0 ht33) (by omega) hk hallp (by rw [hpe]; decide), hpe]; rfl)
    try replace ht53 := of_decide_eq_false ht53
    refine sr ?_
    refine qp (K.fieldAddr_lit fo_26_3 rfl) ?_
    refine K.seq_sil (K.load1_own one_23 rfl (K.m3) rfl) rfl ?_
    refine zN ?_
    refine qm ?_
    refine K.seq_pure (K.Pure.eq (K.slice_hi k sl_23 rfl rfl rfl (by omega)) (show _ = Value.slice B (m.ps.take k).length d from by rw [htk])) rfl ?_
    refine zN ?_
    refine K.seq_pure (K.mkFunc) rfl ?_
    refine zN ?_
    refine K.seq_call (K.call_g cal_54 (fun F w hF hw => (by have hp8 : ∀ w1, Below w.heap.size w w1 → K.PtrL w1 [] ⟨b8, 0, none⟩ (eN (m.ps.getD k default)) := fun w1 hb => K.PtrL.pass hw (hF _ (K.m1)) hb; exact c54 (cap := [.pointer (some ⟨b8, 0, none⟩)]) (p := fun q => nmEq q.nm (m.ps.getD k default).nm) ((hP.pass hw).take k) (by rw [htk]; omega) cal_55 (fun x _ w1 hb => c55 (hp8 w1 hb))))) rfl ?_
    refine zN ?_
    refine qa ?_
    refine sn ?_
    refine K.cond rfl (fun ht59 => ?_) (fun ht59 => ?_)
    · try replace ht59 := of_decide_eq_true ht59
      refine sr ?_
      refine qm ?_
      iterate 3 refine qa ?_
      refine sn ?_
      refine K.ret ?_
      refine K.ret_block ?_
      refine K.ret_then ?_
      refine K.ret_block ?_
      refine K.ret_then ?_
      refine K.ret_then ?_
      refine K.ret_block ?_
      refine K.ret_then ?_
      refine K.end_ret (fun w _ => K.res_ttt rfl w) ?_
      have hpe : pinE m.W m.D m.ps k = 5 := pin_5 (by simpa using ht53) ht59
      exact K.gives (by rw [chk_p hWD hl (hg_idx0 ht33) (by omega) hk hallp (by rw [hpe]; decide), hpe]; rfl)
    try replace ht59 := of_decide_eq_false ht59
    refine sr ?_
    refine K.seq_sil (K.loadA_own ag_26 rfl (K.m3) rfl) rfl ?_
    refine zN ?_
    refine K.seq_sil (K.loadA_own ag_80 rfl (K.m0) rfl) rfl ?_
    refine zN ?_
    refine K.seq_call (K.call_g cal_56 (fun F w hF hw => c56 hWD.1 hWD.2)) rfl ?_
    refine zN ?_
    first | refine K.seq_pure (K.not_d rfl) rfl ?_ | refine K.seq_pure (K.not_ rfl) rfl ?_
    refine zN ?_
    refine qa ?_
    refine sn ?_
    refine K.cond rfl (fun ht67 => ?_) (fun ht67 => ?_)
    · try replace ht67 := of_decide_eq_true ht67
      refine sr ?_
      refine qm ?_
      iterate 3 refine qa ?_
      refine sn ?_
      refine K.ret ?_
      refine K.ret_block ?_
      refine K.ret_then ?_
      refine K.ret_block ?_
      refine K.ret_then ?_
      refine K.ret_then ?_
      refine K.ret_block ?_
      refine K.ret_then ?_
      refine K.end_ret (fun w _ => K.res_ttt rfl w) ?_
      have hpe : pinE m.W m.D m.ps k = 4 := pin_4 (by simpa using ht53) ht59 ht67
      exact K.gives (by rw [chk_p hWD hl (hg_idx0 ht33) (by omega) hk hallp (by rw [hpe]; decide), hpe]; rfl)
    try replace ht67 := of_decide_eq_false ht67
    have hF : onF m.W m.D (m.ps.getD k default).x (m.ps.getD k default).y := Decidable.not_not.1 ht67
    refine sr ?_
    refine qm ?_
    refine K.seq_sil (K.loadA_own ag_80 rfl (K.m0) rfl) rfl ?_
    refine zN ?_
    refine K.seq_loud (K.lookup_mq mapT rfl rfl (K.m2) (keyOf80 (by omega) (by omega)) (keysOk hWD.1.2 hWD.2.2 hkn hallp)) rfl ?_
    rintro c76 hc76
    refine zN ?_
    refine qp (K.gtr rfl rfl) ?_
    refine qa ?_
    refine sn ?_
    refine K.cond rfl (fun ht73 => ?_) (fun ht73 => ?_)
    · try replace ht73 := of_decide_eq_true ht73
      refine sr ?_
      refine qm ?_
      iterate 3 refine qa ?_
      refine sn ?_
      refine K.ret ?_
      refine K.ret_block ?_
      refine K.ret_then ?_
      refine K.ret_block ?_
      refine K.ret_then ?_
      refine K.ret_then ?_
      refine K.ret_block ?_
      refine K.ret_then ?_
      refine K.end_ret (fun w _ => K.res_ttt rfl w) ?_
      have hpe : pinE m.W m.D m.ps k = 2 := pin_2 (by simpa using ht53) ht59 hF (by rw [(key_look hc76).1]; exact decide_eq_true ht73)
      exact K.gives (by rw [chk_p hWD hl (hg_idx0 ht33) (by omega) hk hallp (by rw [hpe]; decide), hpe]; rfl)
    try replace ht73 := of_decide_eq_false ht73
    obtain ⟨hka, hkc⟩ := key_look hc76
    have hna : (m.ps.take k).any (atP (m.ps.getD k default).x (m.ps.getD k default).y) = false := by rw [hka]; exact decide_eq_false ht73
    refine sr ?_
    refine qp (K.fieldAddr_lit fo_54_3 rfl) ?_
    refine K.seq_sil (K.load1_own one_3 rfl (K.m1) rfl) rfl ?_
    refine zN ?_
    refine qp (K.fieldAddr_lit fo_54_4 rfl) ?_
    refine K.seq_sil (K.load1_own one_3 rfl (K.m1) rfl) rfl ?_
    refine zN ?_
    refine K.seq_new (K.buildSlice (bs2 _ _)) rfl ?_
    intro b84
    refine zN ?_
    refine K.seq_call (K.call_g cal_50 (fun F w hF hw => c50_2 hw (hF _ (K.m0)))) rfl ?_
    refine zN ?_
    refine qm ?_
    refine K.split 86 rfl (fun hg86 => ?_) (fun hg86 => ?_)
    · try replace hg86 := of_decide_eq_true hg86
      iterate 5 refine qs ?_
      refine qp (K.pick_t rfl) ?_
      refine qa ?_
      refine sn ?_
      refine K.cond_true rfl ?_
      refine sr ?_
      refine qm ?_
      iterate 3 refine qa ?_
      refine sn ?_
      refine K.ret ?_
      refine K.ret_block ?_
      refine K.ret_then ?_
      refine K.ret_block ?_
      refine K.ret_then ?_
      refine K.ret_then ?_
      refine K.ret_block ?_
      refine K.ret_then ?_
      refine K.end_ret (fun w _ => K.res_ttt rfl w) ?_
      have hpe : pinE m.W m.D m.ps k = 7 := by rw [pin_7 (by simpa using ht53) ht59 hF hna, lenE_7 (by omega)]
      exact K.gives (by rw [chk_p hWD hl (hg_idx0 ht33) (by omega) hk hallp (by rw [hpe]; decide), hpe]; rfl)
    try replace hg86 := of_decide_eq_false hg86
    refine qp (K.fieldAddr_lit fo_54_4 rfl) ?_
    refine K.seq_sil (K.load1_own one_3 rfl (K.m2) rfl) rfl ?_
    refine zN ?_
    refine qp (K.fieldAddr_lit fo_54_3 rfl) ?_
    refine K.seq_sil (K.load1_own one_3 rfl (K.m2) rfl) rfl ?_
    refine zN ?_
    refine qp (K.lss rfl rfl) ?_
    refine qp (K.pick_f rfl) ?_
    refine qa ?_
    refine sn ?_
    refine K.cond rfl (fun ht79 => ?_) (fun ht79 => ?_)
    · try replace ht79 := of_decide_eq_true ht79
      refine sr ?_
      refine qm ?_
      iterate 3 refine qa ?_
      refine sn ?_
      refine K.ret ?_
      refine K.ret_block ?_
      refine K.ret_then ?_
      refine K.ret_block ?_
      refine K.ret_then ?_
      refine K.ret_then ?_
      refine K.ret_block ?_
      refine K.ret_then ?_
      refine K.end_ret (fun w _ => K.res_ttt rfl w) ?_
      have hpe : pinE m.W m.D m.ps k = 7 := by rw [pin_7 (by simpa using ht53) ht59 hF hna, lenE_7 (by omega)]
      exact K.gives (by rw [chk_p hWD hl (hg_idx0 ht33) (by omega) hk hallp (by rw [hpe]; decide), hpe]; rfl)
    try replace ht79 := of_decide_eq_false ht79
    refine K.skip ?_
    refine K.norm_block ?_
    refine K.norm_then ?_
    refine K.draw_take 3 [4, 6] Tryd_mixed ?_
    refine K.d_pure 0 rfl (K.move) (by kernel_rfl) rfl ?_
    refine zn ?_
    refine K.d_mem 1 rfl (K.loadA_own ag_80 rfl (K.m1) rfl) (fun _ h => K.take_sub 3 _ h) (by kernel_rfl) (by kernel_rfl) rfl ?_
    refine zN ?_
    refine K.d_two 2 4 (by kernel_rfl) ?_ ?_
    · refine K.s_loud 2 rfl (K.lookup_mq mapT rfl rfl (K.m3) (keyOf80 (by omega) (by omega)) (keysOk hWD.1.2 hWD.2.2 hkn hallp)) (fun _ h => K.take_sub 3 _ h) (by kernel_rfl) rfl ?_
      rintro c96 hc96
      refine zN ?_
      have hc0 : c96 = 0 := by first | exact key_c0 hna hc96 | exact key_c1 hna hc96
      refine zN ?_
      refine K.d_pure 3 rfl (K.add_i64 rfl rfl (by omega)) (by kernel_rfl) rfl ?_
      refine zn ?_
      refine K.d_last 4 rfl (K.mapEntry_mq mapT rfl rfl (keyOf80 (by omega) (by omega)) (keysOk hWD.1.2 hWD.2.2 hkn hallp) (fun _ => K.rp3)) rfl (by kernel_rfl) rfl ?_
      rintro ⟨v98, n98, j98⟩ h98
      refine zN ?_
      refine K.d_pure 5 rfl (K.extract rfl rfl) (by kernel_rfl) rfl ?_
      refine zn ?_
      refine K.d_last 6 rfl (K.entryStore_mq rfl rfl rfl (K.rp3)) rfl (by kernel_rfl) rfl ?_
      intro _ _
      refine zN ?_
      refine K.d_done (by kernel_rfl) ?_
      refine K.norm_block ?_
      refine K.norm_then ?_
      refine K.region_lit ?_
      refine qp (K.add_i64 rfl rfl (by omega)) ?_
      refine qm ?_
      refine K.seq_nil ?_
      rw [key_next hk hna hc0 h98]
      have hpz : pinE m.W m.D m.ps k = 0 := by
        rw [pin_7 (by simpa using ht53) ht59 hF hna, lenE_0 (by omega)]
      exact K.round_endW (L'' := [K.mq b39 none ((m.ps.take (k + 1)).map fun p => (Value.agg #[.int .i64 p.x, .int .i64 p.y], (1 : Int))), K.blk b1 26 [.int .i64 m.W, .int .i64 m.D, .slice A m.hs.length c, .slice B m.ps.length d, .slice C m.ss.length e]]) [.int .i64 ((k : Int) + 1)] ⟨k + 1, rfl, rfl, by omega, K.lt_succ_case hallp hpz⟩ (by simp [K.nth, intOf]; omega) (by repeat (first | exact List.Sublist.refl _ | apply List.Sublist.cons)) (by kernel_rfl)
    refine K.s_last 4 rfl (K.mapEntry_mq mapT rfl rfl (keyOf80 (by omega) (by omega)) (keysOk hWD.1.2 hWD.2.2 hkn hallp) (fun _ => K.rp3)) rfl (by kernel_rfl) rfl ?_
    rintro ⟨v98, n98, j98⟩ h98
    refine zN ?_
    refine K.d_pure 5 rfl (K.extract rfl rfl) (by kernel_rfl) rfl ?_
    refine zn ?_
    refine K.d_loud 2 rfl (K.lookup_mq mapT rfl rfl (K.m3) (keyOf80 (by omega) (by omega)) (keysE hWD.1.2 hWD.2.2 hkn hallp hF)) (fun _ h => K.take_sub 3 _ h) (by kernel_rfl) rfl ?_
    rintro c96 hc96
    refine zN ?_
    have hc0 : c96 = 0 := by first | exact key_c0 hna hc96 | exact key_c1 hna hc96
    refine zN ?_
    refine K.d_pure 3 rfl (K.add_i64 rfl rfl (by omega)) (by kernel_rfl) rfl ?_
    refine zn ?_
    refine K.d_last 6 rfl (K.entryStore_mq rfl rfl rfl (K.rp3)) rfl (by kernel_rfl) rfl ?_
    intro _ _
    refine zN ?_
    refine K.d_done (by kernel_rfl) ?_
    refine K.norm_block ?_
    refine K.norm_then ?_
    refine K.region_lit ?_
    refine qp (K.add_i64 rfl rfl (by omega)) ?_
    refine qm ?_
    refine K.seq_nil ?_
    rw [key_next hk hna hc0 h98]
    have hpz : pinE m.W m.D m.ps k = 0 := by
      rw [pin_7 (by simpa using ht53) ht59 hF hna, lenE_0 (by omega)]
    exact K.round_endW (L'' := [K.mq b39 none ((m.ps.take (k + 1)).map fun p => (Value.agg #[.int .i64 p.x, .int .i64 p.y], (1 : Int))), K.blk b1 26 [.int .i64 m.W, .int .i64 m.D, .slice A m.hs.length c, .slice B m.ps.length d, .slice C m.ss.length e]]) [.int .i64 ((k : Int) + 1)] ⟨k + 1, rfl, rfl, by omega, K.lt_succ_case hallp hpz⟩ (by simp [K.nth, intOf]; omega) (by repeat (first | exact List.Sublist.refl _ | apply List.Sublist.cons)) (by kernel_rfl)
  try replace ht44 := of_decide_eq_false ht44
  refine K.exit ?_
  refine K.exit_then ?_
  refine K.exit_then ?_
  refine K.exit_here ?_
  refine K.norm_then ?_
  refine K.seq ?_
  refine sr ?_
  refine qp (K.fieldAddr_lit fo_26_4 rfl) ?_
  refine K.seq_sil (K.load1_own one_24 rfl (K.m1) rfl) rfl ?_
  refine zN ?_
  refine qp (K.len_sl sl_24 rfl) ?_
  refine qp (K.gtr rfl rfl) ?_
  refine sn ?_
  refine K.cond rfl (fun ht104 => ?_) (fun ht104 => ?_)
  · try replace ht104 := of_decide_eq_true ht104
    refine sr ?_
    iterate 3 refine qa ?_
    refine sn ?_
    refine K.ret ?_
    refine K.ret_then ?_
    refine K.end_ret (fun w _ => K.res_ttt rfl w) ?_
    exact K.gives (by rw [chk_6 hWD hl (hg_idx0 ht33) (by omega) (fst_ps (fun j hj => hallp j (by omega))) (by omega)]; rfl)
  try replace ht104 := of_decide_eq_false ht104
  refine K.skip ?_
  refine K.norm_then ?_
  refine K.seq ?_
  refine K.seq ?_
  refine K.weak (List.Sublist.refl _) ?_
  refine K.region_lit ?_
  refine qp (K.fieldAddr_lit fo_26_4 rfl) ?_
  refine K.seq_sil (K.load1_own one_24 rfl (K.m1) rfl) rfl ?_
  refine zN ?_
  refine qp (K.len_sl sl_24 rfl) ?_
  refine qm ?_
  refine sn ?_
  refine K.block ?_
  refine K.loopW [108] [2, 3, 4, 10, 11, 109, 110, 111, 112, 113, 114, 115, 116, 117, 118, 119, 120, 121, 122, 123, 124, 125, 126, 127, 128, 129, 130, 131, 132, 133, 134, 135, 136, 137, 138, 139, 140, 141, 142, 143, 144, 145, 146, 147, 148, 149] (fun vi L => ∃ (j : Nat), vi = [.int .i64 (j : Int)] ∧ L = [K.mq b39 none ((m.ps.take k).map fun p => (Value.agg #[.int .i64 p.x, .int .i64 p.y], (1 : Int))), K.blk b1 26 [.int .i64 m.W, .int .i64 m.D, .slice A m.hs.length c, .slice B m.ps.length d, .slice C m.ss.length e]] ∧ j ≤ m.ss.length ∧ ∀ i, i < j → stE m.W m.D (m.ss.getD i default) = 0) (fun vi => m.ss.length - (intOf (K.nth vi 0)).toNat) ?_ ?_
  · exact ⟨0, rfl, rfl, Nat.zero_le _, fun j hj => absurd hj (Nat.not_lt_zero j)⟩
  intro vi vr L hJ
  obtain ⟨j, rfl, rfl, hjn, halls⟩ := hJ
  try dsimp only [setd, setn, ev, nth, over, cl, eI, eP, eT, eN, eS, setM, setF, List.map, List.append, List.drop, List.take]
  refine sr ?_
  refine qp (K.lss rfl rfl) ?_
  refine sn ?_
  refine K.seq ?_
  refine K.cond rfl (fun ht109 => ?_) (fun ht109 => ?_)
  · try replace ht109 := of_decide_eq_true ht109
    have hj : j < m.ss.length := by omega
    refine K.skip ?_
    refine K.norm_then ?_
    refine K.seq ?_
    refine K.block ?_
    refine sr ?_
    refine qm ?_
    refine K.seq_ix (M := []) _ hS.sl sl_24 rfl rfl rfl (by omega) rfl ?_
    intro p111 hp111
    refine zN ?_
    refine K.seq_sil (K.loadA_p ag_63 rfl (hp111.any) rfl) rfl ?_
    refine zN ?_
    refine K.seq_new (K.alloc zr_63) rfl ?_
    intro b11
    refine zN ?_
    refine qa ?_
    refine K.seq_st (K.store_all sz_63 rfl rfl rfl rfl (K.rp0)) rfl ?_
    refine zN ?_
    refine sn ?_
    refine K.block ?_
    refine sr ?_
    refine qp (K.fieldAddr_lit fo_63_0 rfl) ?_
    refine K.seq_sil (K.load1_own one_3 rfl (K.m0) rfl) rfl ?_
    refine zN ?_
    refine qp (K.fieldAddr_lit fo_63_1 rfl) ?_
    refine K.seq_sil (K.load1_own one_3 rfl (K.m0) rfl) rfl ?_
    refine zN ?_
    refine K.seq_new (K.buildSlice (bs2 _ _)) rfl ?_
    intro b118
    refine zN ?_
    refine K.seq_call (K.call_g cal_50 (fun F w hF hw => c50_2 hw (hF _ (K.m0)))) rfl ?_
    refine zN ?_
    refine qm ?_
    refine K.split 120 rfl (fun hg120 => ?_) (fun hg120 => ?_)
    · try replace hg120 := of_decide_eq_true hg120
      iterate 8 refine qs ?_
      refine qp (K.pick_t rfl) ?_
      refine qa ?_
      refine sn ?_
      refine K.cond_true rfl ?_
      refine sr ?_
      refine qm ?_
      iterate 3 refine qa ?_
      refine sn ?_
      refine K.ret ?_
      refine K.ret_block ?_
      refine K.ret_block ?_
      refine K.ret_then ?_
      refine K.ret_then ?_
      refine K.ret_block ?_
      refine K.ret_then ?_
      refine K.end_ret (fun w _ => K.res_ttt rfl w) ?_
      have hse : stE m.W m.D (m.ss.getD j default) = 7 := by unfold stE; rw [if_pos (by omega)]
      exact K.gives (by rw [chk_s hWD hl (hg_idx0 ht33) (by omega) (fst_ps (fun j hj => hallp j (by omega))) (by omega) hj halls (by rw [hse]; decide), hse]; rfl)
    try replace hg120 := of_decide_eq_false hg120
    refine qp (K.fieldAddr_lit fo_63_2 rfl) ?_
    refine qp (K.fieldAddr_lit fo_61_0 rfl) ?_
    refine K.seq_sil (K.load1_own one_3 rfl (K.m1) rfl) rfl ?_
    refine zN ?_
    refine qp (K.fieldAddr_lit fo_63_2 rfl) ?_
    refine qp (K.fieldAddr_lit fo_61_1 rfl) ?_
    refine K.seq_sil (K.load1_own one_3 rfl (K.m1) rfl) rfl ?_
    refine zN ?_
    refine K.seq_new (K.buildSlice (bs2 _ _)) rfl ?_
    intro b127
    refine zN ?_
    refine K.seq_call (K.call_g cal_50 (fun F w hF hw => c50_2 hw (hF _ (K.m0)))) rfl ?_
    refine zN ?_
    refine qp (K.pick_f rfl) ?_
    refine qa ?_
    refine sn ?_
    refine K.cond rfl (fun ht113 => ?_) (fun ht113 => ?_)
    · try replace ht113 := of_decide_eq_true ht113
      refine sr ?_
      refine qm ?_
      iterate 3 refine qa ?_
      refine sn ?_
      refine K.ret ?_
      refine K.ret_block ?_
      refine K.ret_block ?_
      refine K.ret_then ?_
      refine K.ret_then ?_
      refine K.ret_block ?_
      refine K.ret_then ?_
      refine K.end_ret (fun w _ => K.res_ttt rfl w) ?_
      have hse : stE m.W m.D (m.ss.getD j default) = 7 := by unfold stE; rw [if_pos (by omega)]
      exact K.gives (by rw [chk_s hWD hl (hg_idx0 ht33) (by omega) (fst_ps (fun j hj => hallp j (by omega))) (by omega) hj halls (by rw [hse]; decide), hse]; rfl)
    try replace ht113 := of_decide_eq_false ht113
    refine sr ?_
    refine K.seq_sil (K.loadA_own ag_26 rfl (K.m4) rfl) rfl ?_
    refine zN ?_
    refine qp (K.fieldAddr_lit fo_63_0 rfl) ?_
    refine K.seq_sil (K.load1_own one_3 rfl (K.m2) rfl) rfl ?_
    refine zN ?_
    refine qp (K.fieldAddr_lit fo_63_1 rfl) ?_
    refine K.seq_sil (K.load1_own one_3 rfl (K.m2) rfl) rfl ?_
    refine zN ?_
    refine K.seq_pure (K.build (bl80 _ _)) rfl ?_
    refine zN ?_
    refine K.seq_call (K.call_g cal_56 (fun F w hF hw => c56 hWD.1 hWD.2)) rfl ?_
    refine zN ?_
    refine qa ?_
    refine sn ?_
    refine K.cond rfl (fun ht131 => ?_) (fun ht131 => ?_)
    · try replace ht131 := of_decide_eq_true ht131
      refine sr ?_
      refine qm ?_
      iterate 3 refine qa ?_
      refine sn ?_
      refine K.ret ?_
      refine K.ret_block ?_
      refine K.ret_block ?_
      refine K.ret_then ?_
      refine K.ret_then ?_
      refine K.ret_block ?_
      refine K.ret_then ?_
      refine K.end_ret (fun w _ => K.res_ttt rfl w) ?_
      have hse : stE m.W m.D (m.ss.getD j default) = 4 := by unfold stE; rw [if_neg (by omega), if_pos ht131]
      exact K.gives (by rw [chk_s hWD hl (hg_idx0 ht33) (by omega) (fst_ps (fun j hj => hallp j (by omega))) (by omega) hj halls (by rw [hse]; decide), hse]; rfl)
    try replace ht131 := of_decide_eq_false ht131
    refine sr ?_
    refine qp (K.fieldAddr_lit fo_63_2 rfl) ?_
    refine qp (K.fieldAddr_lit fo_61_0 rfl) ?_
    refine K.seq_sil (K.load1_own one_3 rfl (K.m2) rfl) rfl ?_
    refine zN ?_
    refine qp (K.fieldAddr_lit fo_63_2 rfl) ?_
    refine qp (K.fieldAddr_lit fo_61_1 rfl) ?_
    refine K.seq_sil (K.load1_own one_3 rfl (K.m2) rfl) rfl ?_
    refine zN ?_
    refine qp (K.gtr rfl rfl) ?_
    refine qa ?_
    refine sn ?_
    refine K.cond rfl (fun ht140 => ?_) (fun ht140 => ?_)
    · try replace ht140 := of_decide_eq_true ht140
      refine sr ?_
      refine qm ?_
      iterate 3 refine qa ?_
      refine sn ?_
      refine K.ret ?_
      refine K.ret_block ?_
      refine K.ret_block ?_
      refine K.ret_then ?_
      refine K.ret_then ?_
      refine K.ret_block ?_
      refine K.ret_then ?_
      refine K.end_ret (fun w _ => K.res_ttt rfl w) ?_
      have hse : stE m.W m.D (m.ss.getD j default) = 2 := by unfold stE; rw [if_neg (by omega), if_neg ht131, if_pos (by omega)]
      exact K.gives (by rw [chk_s hWD hl (hg_idx0 ht33) (by omega) (fst_ps (fun j hj => hallp j (by omega))) (by omega) hj halls (by rw [hse]; decide), hse]; rfl)
    try replace ht140 := of_decide_eq_false ht140
    refine K.skip ?_
    refine K.norm_block ?_
    refine K.norm_block ?_
    refine K.norm_then ?_
    refine K.region_lit ?_
    refine qp (K.add_i64 rfl rfl (by omega)) ?_
    refine qm ?_
    refine K.seq_nil ?_
    have hsz : stE m.W m.D (m.ss.getD j default) = 0 := by unfold stE; rw [if_neg (by omega), if_neg ht131, if_neg (by omega)]
    exact K.round_endW (L'' := [K.mq b39 none ((m.ps.take k).map fun p => (Value.agg #[.int .i64 p.x, .int .i64 p.y], (1 : Int))), K.blk b1 26 [.int .i64 m.W, .int .i64 m.D, .slice A m.hs.length c, .slice B m.ps.length d, .slice C m.ss.length e]]) [.int .i64 ((j : Int) + 1)] ⟨j + 1, rfl, rfl, by omega, K.lt_succ_case halls hsz⟩ (by simp [K.nth, intOf]; omega) (by repeat (first | exact List.Sublist.refl _ | apply List.Sublist.cons)) (by kernel_rfl)
  try replace ht109 := of_decide_eq_false ht109
  refine K.exit ?_
  refine K.exit_then ?_
  refine K.exit_then ?_
  refine K.exit_here ?_
  refine K.norm_then ?_
  refine sr ?_
  iterate 3 refine qa ?_
  refine sn ?_
  refine K.ret ?_
  refine K.end_ret (fun w _ => K.res_ttt rfl w) ?_
  exact K.gives (by rw [chk_0 hWD hl (hg_idx0 ht33) (by omega) (fst_ps (fun j hj => hallp j (by omega))) (by omega) (by rw [K.fst_none (fun j hj => halls j (by omega))])]; rfl)

theorem g16 {m : Mod} {A B C : Option Addr} {c d e : Nat} {w : World} (hH : K.Rd w A 1 K.eI m.hs) (hP : K.Rd w B 5 eN m.ps) (hS : K.Rd w C 4 eS m.ss) (hn : m.hs.length ≤ 4611686018427387904) (hm : m.ps.length ≤ 4611686018427387904) (hk : m.ss.length ≤ 4611686018427387904) (hcd : m.ps.length ≤ d) (hc : chk m = (0, 0, 0)) : Calls Tryd.prog 16 [.agg #[.int .i64 m.W, .int .i64 m.D, .slice A m.hs.length c, .slice B m.ps.length d, .slice C m.ss.length e]].toArray w (K.Gives (.tuple #[.int .i64 0, .int .i64 0, .int .i64 0]) w) := by
  have h := c16 (c := c) (e := e) hH hP hS hn hm hk hcd
  rw [hc] at h; exact h

end Go.Proofs.YthkgnhcknkjgdaaDoor
