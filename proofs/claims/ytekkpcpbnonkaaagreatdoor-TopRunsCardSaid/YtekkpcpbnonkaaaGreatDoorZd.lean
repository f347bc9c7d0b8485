/-
  Lemmas and walks of functions, joined and with only what the claim needs.
  Conditions stand in each theorem.
-/
import Derived.Test.YtekkpcpbnonkaaaGreatDoorProg
import Derived.Test.YtekkpcpbnonkaaaGreatDoorRows
import Derived.Below
import Derived.Laws.AppendOwn
import Derived.Laws.Rows
import Derived.Laws.Slices
import Derived.Tactics
import Derived.OrdersHeld
import Derived.KernelRfl
import Derived.WalkKit
import Derived.Deep.AppendLies
import Derived.IntWalk
import Derived.Scope
import Derived.WalkSpells
import Derived.DeepKeys
import Derived.Deep.Upon
import Derived.Laws.Small
import Derived.RangeFuncLeaves
import Derived.RangeFuncSeq
import Derived.OrdersIn
import Derived.Sort.LoopGhostIn
import Derived.TacticsIn
import Derived.RangeFuncOwn
import Derived.WideKeyMaps
import Derived.DeepKeys4
import Derived.Carry
import Derived.Laws.CopyRow
import Derived.Laws.Strings
import Derived.WalkArith
import Derived.Laws.Closers25b
import Derived.ProofKit
import Derived.OpenShut
import Derived.LaidMore
import Derived.Lay
import Derived.Stop.Joined
import Derived.ChangeOld
import Derived.SizedLaws
import Derived.Deep.Slices
import Derived.Deep.Fields
import Derived.ChangeSame
import Derived.Lib.SmallJoins
import Derived.Laws.MakeOwn
import Derived.Shelf.Sort.Plain
import Derived.Sort.OwnSortedInts
import Derived.SevenTiedAt
import Derived.Test.YtekkpcpbnonkaaaGreatDoorZc
section
set_option linter.unusedSimpArgs false
set_option linter.unusedVariables false
namespace Go.Proofs.YtekkpcpbnonkaaaGreatDoor.Sc
open Go.RowKit Go
open Go.K (setd setn ev nth over cl eI eP eT setM setF)
attribute [local irreducible] K.blk K.row
theorem ik_5 : K.ik Tryz.prog 5 = some .u8 := by kernel_rfl
theorem ik_3 : K.ik Tryz.prog 3 = some .i64 := by kernel_rfl

set_option maxRecDepth 100000 in
theorem c103 {n : Int} (w : World) :
    Calls Tryz.prog 114 [.int .i64 n].toArray w (K.Gives (.bool false) w) := by
  refine K.enter (args := [.int .i64 n]) Tryz.func114 rfl (n := 5) rfl ?_
  simp only [List.replicate, List.cons_append, List.nil_append]
  refine K.seq ?_
  refine K.region_lit ?_
  refine K.seq_pure (K.assign) rfl ?_
  refine Rv.zn ?_
  refine K.seq_nil ?_
  refine K.norm_then ?_
  refine K.seq ?_
  refine K.region_lit ?_
  refine K.seq_pure (K.move) rfl ?_
  refine Rv.zn ?_
  refine K.seq_pure (K.move) rfl ?_
  refine Rv.zn ?_
  refine K.seq_pure (K.neq rfl rfl) rfl ?_
  refine Rv.zn ?_
  refine K.seq_pure (K.assign) rfl ?_
  refine Rv.zn ?_
  refine K.seq_nil ?_
  refine K.norm_then ?_
  refine K.ret ?_
  refine K.end_ret (fun w _ => K.res_tmp rfl w) ?_
  exact K.gives_b rfl (by simp)

set_option maxRecDepth 100000 in
theorem c96 {a b : Int} (w : World) :
    Calls Tryz.prog 94 [.int .i64 a, .int .i64 b].toArray w (K.Gives (.int .i64 (cmpS a b)) w) := by
  refine K.enter (args := [.int .i64 a, .int .i64 b]) Tryz.func94 rfl (n := 18) rfl ?_
  simp only [List.replicate, List.cons_append, List.nil_append]
  refine K.seq ?_
  refine K.region_lit ?_
  refine K.seq_pure (K.assign) rfl ?_
  refine Rv.zn ?_
  refine K.seq_nil ?_
  refine K.norm_then ?_
  refine K.seq ?_
  refine K.region_lit ?_
  refine K.seq_pure (K.move) rfl ?_
  refine Rv.zn ?_
  refine K.seq_call (K.call_g cal_114 (fun F w hF hw => c103 w)) rfl ?_
  try dsimp only [setd, setn, ev, nth, over, cl, eI, eP, eT, List.map, List.append, List.drop, List.take]
  refine K.seq_pure (K.assign) rfl ?_
  refine Rv.zn ?_
  refine K.seq_nil ?_
  refine K.norm_then ?_
  refine K.seq ?_
  refine K.region_lit ?_
  refine K.seq_pure (K.move) rfl ?_
  refine Rv.zn ?_
  refine K.seq_call (K.call_g cal_114 (fun F w hF hw => c103 w)) rfl ?_
  try dsimp only [setd, setn, ev, nth, over, cl, eI, eP, eT, List.map, List.append, List.drop, List.take]
  refine K.seq_pure (K.assign) rfl ?_
  refine Rv.zn ?_
  refine K.seq_nil ?_
  refine K.norm_then ?_
  refine K.seq ?_
  refine K.seq ?_
  refine K.region_lit ?_
  refine K.seq_pure (K.move) rfl ?_
  refine Rv.zn ?_
  refine K.seq_nil ?_
  refine K.norm_then ?_
  refine K.cond rfl (fun ht11 => ?_) (fun ht11 => ?_)
  · try replace ht11 := of_decide_eq_true ht11
    cases ht11
  try replace ht11 := of_decide_eq_false ht11
  refine K.skip ?_
  refine K.norm_then ?_
  refine K.seq ?_
  refine K.seq ?_
  refine K.region_lit ?_
  refine K.seq_pure (K.move) rfl ?_
  refine Rv.zn ?_
  refine K.seq_nil ?_
  refine K.norm_then ?_
  refine K.cond rfl (fun ht13 => ?_) (fun ht13 => ?_)
  · try replace ht13 := of_decide_eq_true ht13
    cases ht13
  try replace ht13 := of_decide_eq_false ht13
  refine K.skip ?_
  refine K.norm_then ?_
  refine K.seq ?_
  refine K.seq ?_
  refine K.region_lit ?_
  refine K.seq_pure (K.move) rfl ?_
  refine Rv.zn ?_
  refine K.seq_pure (K.move) rfl ?_
  refine Rv.zn ?_
  refine K.seq_pure (K.lss rfl rfl) rfl ?_
  refine Rv.zn ?_
  refine K.seq_nil ?_
  refine K.norm_then ?_
  refine K.cond rfl (fun ht16 => ?_) (fun ht16 => ?_)
  · try replace ht16 := of_decide_eq_true ht16
    refine K.seq ?_
    refine K.region_lit ?_
    refine K.seq_pure (K.assign) rfl ?_
    refine Rv.zn ?_
    refine K.seq_nil ?_
    refine K.norm_then ?_
    refine K.ret ?_
    refine K.ret_then ?_
    refine K.end_ret (fun w _ => K.res_tmp rfl w) ?_
    exact K.gives_i rfl (by unfold cmpS; rw [if_pos (by omega)])
  try replace ht16 := of_decide_eq_false ht16
  refine K.skip ?_
  refine K.norm_then ?_
  refine K.seq ?_
  refine K.seq ?_
  refine K.region_lit ?_
  refine K.seq_pure (K.move) rfl ?_
  refine Rv.zn ?_
  refine K.seq_pure (K.move) rfl ?_
  refine Rv.zn ?_
  refine K.seq_pure (K.gtr rfl rfl) rfl ?_
  refine Rv.zn ?_
  refine K.seq_nil ?_
  refine K.norm_then ?_
  refine K.cond rfl (fun ht19 => ?_) (fun ht19 => ?_)
  · try replace ht19 := of_decide_eq_true ht19
    refine K.seq ?_
    refine K.region_lit ?_
    refine K.seq_pure (K.assign) rfl ?_
    refine Rv.zn ?_
    refine K.seq_nil ?_
    refine K.norm_then ?_
    refine K.ret ?_
    refine K.ret_then ?_
    refine K.end_ret (fun w _ => K.res_tmp rfl w) ?_
    exact K.gives_i rfl (by unfold cmpS; rw [if_neg (by omega), if_pos (by omega)])
  try replace ht19 := of_decide_eq_false ht19
  refine K.skip ?_
  refine K.norm_then ?_
  refine K.seq ?_
  refine K.region_lit ?_
  refine K.seq_pure (K.assign) rfl ?_
  refine Rv.zn ?_
  refine K.seq_nil ?_
  refine K.norm_then ?_
  refine K.ret ?_
  refine K.end_ret (fun w _ => K.res_tmp rfl w) ?_
  exact K.gives_i rfl (by unfold cmpS; rw [if_neg (by omega), if_neg (by omega)])

end Go.Proofs.YtekkpcpbnonkaaaGreatDoor.Sc
end
section
set_option linter.unusedSimpArgs false
set_option linter.unusedVariables false
namespace Go.Proofs.YtekkpcpbnonkaaaGreatDoor.Sc
open Go.RowKit Go
open Go.K (setd setn ev nth over cl eI eP eT setM setF)
attribute [local irreducible] K.blk K.row
theorem laidOut : laidOutB Tryz.prog = true := by kernel_rfl
theorem size164 : Tryz.prog.types.size = 190 := by kernel_rfl
theorem row101 : 103 < Tryz.prog.types.size := by rw [size164]; decide
theorem wide101 : (match Tryz.prog.underlying 103 with | some (.array _ _) | some (.struct _) => true | _ => false) = true := by kernel_rfl
theorem ulM : Tryz.prog.underlying 123 = some (.map 103 3) := by kernel_rfl
set_option maxRecDepth 100000 in
theorem mapT : K.MapT Tryz.prog 123 103 := ⟨⟨3, ulM, fun w => by kernel_rfl⟩, deep_law_laid laidOut (m := 10) (by omega) row101 key101 wide101⟩
theorem lits3n {m : Nat} {n : Int} (h : (Lit.int .i64 n).wf = true) : Tryz.prog.keyLits (m + 1) 3 [.int .i64 n] = some [.int .i64 n] := by
  unfold Program.keyLits
  rw [ul3]
  simp [h]
theorem lits101n {m : Nat} {xs : List Int} (h : Bd 0 270001 xs) : Tryz.prog.keyLits (m + 2) 103 (Value.agg (a8 xs).toArray).cells.toList = some (litA8 xs) := by
  have w : ∀ i, (Lit.int .i64 (xs.getD i default)).wf = true := fun i => WalkArith.wf_i64 (by have := h i; omega)
  have e : (Value.agg (a8 xs).toArray).cells.toList = a8 xs := rfl
  rw [e]
  unfold Program.keyLits
  rw [ul101]
  have e2 : List.range 8 = [0, 1, 2, 3, 4, 5, 6, 7] := rfl
  have e3 : ∀ i, i < 8 → ((a8 xs).drop (i * 1)).take 1 = [.int .i64 (xs.getD i default)] := fun i hi => by
    have : i = 0 ∨ i = 1 ∨ i = 2 ∨ i = 3 ∨ i = 4 ∨ i = 5 ∨ i = 6 ∨ i = 7 := by omega
    rcases this with h | h | h | h | h | h | h | h <;> subst h <;> rfl
  simp only [co101, co3, a8_len, if_true, e2, List.mapM_cons, List.mapM_nil, e3 0 (by omega), e3 1 (by omega), e3 2 (by omega), e3 3 (by omega), e3 4 (by omega), e3 5 (by omega), e3 6 (by omega), e3 7 (by omega), lits3n (w _)]
  rfl
theorem kt101 : Tryz.prog.keyType 103 = true := by kernel_rfl
theorem keyOf_kv {z : List Int} (h : Bd 0 270001 z) : ∃ q, keyOf Tryz.prog 103 (kv z) = some q := by
  refine ⟨.string (keyBytes (litA8 z)), ?_⟩
  unfold keyOf
  rw [ul101]
  have h1 := lits101n (m := 189) h
  simp only [size164, kt101, form101, Bool.and_self, if_true]
  rw [h1]
  rfl
theorem bd_mk {s k : Nat} {xs : List Int} (h : Bd 0 270001 xs) : Bd 0 270001 (mkI s k xs) := fun i => by
  rcases Nat.lt_or_ge i 8 with h8 | h8
  · rw [mkI_at h8]
    split
    · omega
    · exact h i
  · have : (mkI s k xs).getD i default = 0 := by rw [List.getD_eq_getElem?_getD, List.getElem?_eq_none (by rw [mkI_len]; exact h8)]; rfl
    rw [this]; omega
theorem ks_ok {zs : List (List Int)} (h : ∀ z ∈ zs, Bd 0 270001 z) : ∀ v ∈ (ddK zs).map kv, ∃ q, keyOf Tryz.prog 103 v = some q := fun v hv => by
  obtain ⟨z, hz, rfl⟩ := List.mem_map.1 hv
  exact keyOf_kv (h z (mem_ddK.1 hz))
theorem ks_ins {zs : List (List Int)} {z : List Int} (h8 : ∀ y ∈ zs, y.length = 8) (hz : z.length = 8) : (kv z ∈ (ddK zs).map kv → (ddK (zs ++ [z])).map kv = (ddK zs).map kv) ∧ (kv z ∉ (ddK zs).map kv → (ddK (zs ++ [z])).map kv = (ddK zs).map kv ++ [kv z]) := by
  have e : kv z ∈ (ddK zs).map kv ↔ z ∈ ddK zs := by
    constructor
    · intro h
      obtain ⟨y, hy, hyz⟩ := List.mem_map.1 h
      rw [← kv_inj (h8 y (mem_ddK.1 hy)) hz hyz]; exact hy
    · exact fun h => List.mem_map_of_mem h
  rw [e, ddK_snoc]
  unfold K.insK
  constructor
  · intro h; rw [if_pos h]
  · intro h; rw [if_neg h, List.map_append]; rfl
theorem keysT_len {kind base : Int} {hs : List Int} {s : Nat} {l : List (Int × Int)} : ∀ y ∈ keysT kind base hs s l, y.length = 8 := fun y hy => by
  obtain ⟨x, _, rfl⟩ := List.mem_map.1 hy
  exact mkI_len
theorem keysT_bd {kind base most : Int} {hs : List Int} {rs : List (Int × Int)} (g : Good kind base most hs rs) {s : Nat} {l : List (Int × Int)} (hp : ∀ x ∈ l, Parts x.1 x.2) : ∀ y ∈ keysT kind base hs s l, Bd 0 270001 y := fun y hy => by
  obtain ⟨x, hx, rfl⟩ := List.mem_map.1 hy
  exact bd_mk (g.bdc (hp x hx))
theorem keysT_snoc {kind base : Int} {hs : List Int} {s k : Nat} {l : List (Int × Int)} (h : k < l.length) : keysT kind base hs s (l.take (k + 1)) = keysT kind base hs s (l.take k) ++ [mkI s 8 (cuts kind base (l.getD k default).1 (l.getD k default).2 hs)] := by
  unfold keysT; exact take_succ_map _ h

set_option maxRecDepth 100000 in
theorem c75 {kind base most : Int} {A B : Option Addr} {c d : Nat} {hs : List Int} {rs : List (Int × Int)} {l : List (Int × Int)} {C : Option Addr} {cc : Nat} {s : Nat} {p q : Addr} {w : World} (hl : K.PtrL w [] p [.slice C l.length cc]) (hm : K.PtrL w [] q [.int .i64 kind, .int .i64 base, .int .i64 most, .slice A hs.length c, .slice B rs.length d, .func (.func (110 + kind.toNat)) #[] #[]]) (hS : K.Rd w C 2 K.eP l) (hH : K.Rd w A 1 K.eI hs) (g : Good kind base most hs rs) (hp : ∀ x ∈ l, Parts x.1 x.2) (hl6 : l.length ≤ 6) (hs8 : s < 256) :
    Calls Tryz.prog 61 [.int .i64 s, .pointer (some p), .pointer (some q)].toArray w (K.Gives (.bool (apB kind base hs l s)) w) := by
  have g1 := g.k
  have g2 := g.n
  have g3 := g.r
  have g4 := g.b
  have g5 := g.m
  refine K.enter (args := [.int .i64 s, .pointer (some p), .pointer (some q)]) Tryz.func61 rfl (n := 44) rfl ?_
  simp only [List.replicate, List.cons_append, List.nil_append]
  refine K.seq ?_
  refine K.region_lit ?_
  refine K.seq_pure (K.assign) rfl ?_
  refine Rv.zn ?_
  refine K.seq_nil ?_
  refine K.norm_then ?_
  refine K.seq ?_
  refine K.region_lit ?_
  refine K.seq_new (K.mkMap) rfl ?_
  intro b11
  try dsimp only [setd, setn, ev, nth, over, cl, eI, eP, eT, List.map, List.append, List.drop, List.take]
  refine K.seq_pure (K.assign) rfl ?_
  refine Rv.zn ?_
  refine K.seq_nil ?_
  refine K.norm_then ?_
  refine K.seq ?_
  refine K.seq ?_
  refine K.region_lit ?_
  refine K.seq_sil (K.load1 one_55 rfl (hl.any)) rfl ?_
  try dsimp only [setd, setn, ev, nth, over, cl, eI, eP, eT, List.map, List.append, List.drop, List.take]
  refine K.seq_pure (K.len_sl sl_55 rfl) rfl ?_
  refine Rv.zn ?_
  refine K.seq_pure (K.move) rfl ?_
  refine Rv.zn ?_
  refine K.seq_nil ?_
  refine K.norm_then ?_
  refine K.block ?_
  refine K.loopW [14] [7, 8, 9, 10, 15, 16, 17, 18, 19, 20, 21, 22, 23, 24, 25, 26, 27, 28, 29, 30, 31, 32, 33, 34, 35, 36, 37, 38, 39, 40, 41] (fun vi L => ∃ k : Nat, vi = [.int .i64 (k : Int)] ∧ L = [K.mp b11 none ((ddK (keysT kind base hs s (l.take k))).map kv)] ∧ k ≤ l.length) (fun vi => l.length - (intOf (K.nth vi 0)).toNat) ?_ ?_
  · exact ⟨0, rfl, rfl, Nat.zero_le _⟩
  intro vi vr L hJ
  obtain ⟨k, rfl, rfl, hkn⟩ := hJ
  try dsimp only [setd, setn, ev, nth, over, cl, eI, eP, eT, setM, setF, List.map, List.append, List.drop, List.take]
  refine K.seq ?_
  refine K.region_lit ?_
  refine K.seq_pure (K.lss rfl rfl) rfl ?_
  refine Rv.zn ?_
  refine K.seq_nil ?_
  refine K.norm_then ?_
  refine K.seq ?_
  refine K.cond rfl (fun ht15 => ?_) (fun ht15 => ?_)
  · try replace ht15 := of_decide_eq_true ht15
    have hk : k < l.length := by omega
    have hpk := hp _ (K.gt_mem hk)
    have hpt : ∀ x ∈ l.take k, Parts x.1 x.2 := fun x hx => hp x (List.mem_of_mem_take hx)
    have hpt1 : ∀ y ∈ keysT kind base hs s (l.take k) ++ [(mkI s 8 (cuts kind base (l.getD k default).1 (l.getD k default).2 hs))], Bd 0 270001 y := by rw [← keysT_snoc hk]; exact keysT_bd g (fun x hx => hp x (List.mem_of_mem_take hx))
    refine K.skip ?_
    refine K.norm_then ?_
    refine K.seq ?_
    refine K.block ?_
    refine K.seq ?_
    refine K.region_lit ?_
    refine K.seq_ix (M := []) _ hS.sl sl_55 rfl rfl rfl (by omega) rfl ?_
    intro p16 hp16
    try dsimp only [setd, setn, ev, nth, over, cl, eI, eP, eT, List.map, List.append, List.drop, List.take]
    refine K.seq_sil (K.loadA_p ag_42 rfl (hp16.any) rfl) rfl ?_
    try dsimp only [setd, setn, ev, nth, over, cl, eI, eP, eT, List.map, List.append, List.drop, List.take]
    refine K.seq_new (K.alloc zr_42) rfl ?_
    intro b7
    try dsimp only [setd, setn, ev, nth, over, cl, eI, eP, eT, List.map, List.append, List.drop, List.take]
    refine K.seq_st (K.store_all sz_42 rfl rfl rfl rfl (K.rp0)) rfl ?_
    try dsimp only [setd, setn, ev, nth, over, cl, eI, eP, eT, List.map, List.append, List.drop, List.take]
    refine K.seq_nil ?_
    refine K.norm_then ?_
    refine K.seq ?_
    refine K.region_lit ?_
    refine K.seq_sil (K.loadA_p ag_99 rfl (hm.any) rfl) rfl ?_
    try dsimp only [setd, setn, ev, nth, over, cl, eI, eP, eT, List.map, List.append, List.drop, List.take]
    refine K.seq_sil (K.loadA_own ag_42 rfl (K.m0) rfl) rfl ?_
    try dsimp only [setd, setn, ev, nth, over, cl, eI, eP, eT, List.map, List.append, List.drop, List.take]
    refine K.seq_call (K.call_g cal_45 (fun F w hF hw => c59 (u := (l.getD k default).1) (v := (l.getD k default).2) (hH.pass hw) g hpk)) rfl ?_
    try dsimp only [setd, setn, ev, nth, over, cl, eI, eP, eT, List.map, List.append, List.drop, List.take]
    refine K.seq_pure (K.move) rfl ?_
    refine Rv.zn ?_
    refine K.seq_pure (K.extract rfl rfl) rfl ?_
    refine Rv.zn ?_
    refine K.seq_pure (K.extract rfl rfl) rfl ?_
    refine Rv.zn ?_
    refine K.seq_new (K.alloc zr_103) rfl ?_
    intro b8
    try dsimp only [setd, setn, ev, nth, over, cl, eI, eP, eT, List.map, List.append, List.drop, List.take]
    refine K.seq_st (K.store_all sz_103 rfl rfl rfl rfl (K.rp0)) rfl ?_
    try dsimp only [setd, setn, ev, nth, over, cl, eI, eP, eT, List.map, List.append, List.drop, List.take]
    refine K.seq_pure (K.assign) rfl ?_
    refine Rv.zn ?_
    refine K.seq_nil ?_
    refine K.norm_then ?_
    refine K.seq ?_
    refine K.seq ?_
    refine K.region_lit ?_
    refine K.seq_pure (K.move) rfl ?_
    refine Rv.zn ?_
    refine K.seq_nil ?_
    refine K.norm_then ?_
    refine K.block ?_
    refine K.loopW [24] [10, 25, 26, 27, 28, 29, 30, 31, 32, 33, 34] (fun vi L => ∃ i : Nat, vi = [.int .i64 (i : Int)] ∧ L = [K.blk b8 103 (a8 (mkI s i (cuts kind base (l.getD k default).1 (l.getD k default).2 hs))), K.blk b7 42 [.int .i64 (l.getD k default).1, .int .i64 (l.getD k default).2], K.mp b11 none ((ddK (keysT kind base hs s (l.take k))).map kv)] ∧ i ≤ 8) (fun vi => 8 - (intOf (K.nth vi 0)).toNat) ?_ ?_
    · exact ⟨0, rfl, by rw [a8_mk0], by omega⟩
    intro vi vr L hJ
    obtain ⟨i, rfl, rfl, hin⟩ := hJ
    try dsimp only [setd, setn, ev, nth, over, cl, eI, eP, eT, setM, setF, List.map, List.append, List.drop, List.take]
    refine K.seq ?_
    refine K.region_lit ?_
    refine K.seq_pure (K.lss rfl rfl) rfl ?_
    refine Rv.zn ?_
    refine K.seq_nil ?_
    refine K.norm_then ?_
    refine K.seq ?_
    refine K.cond rfl (fun ht25 => ?_) (fun ht25 => ?_)
    · try replace ht25 := of_decide_eq_true ht25
      have hi : i < 8 := by omega
      refine K.skip ?_
      refine K.norm_then ?_
      refine K.seq ?_
      refine K.block ?_
      refine K.seq ?_
      refine K.region_lit ?_
      refine K.seq_pure (K.move) rfl ?_
      refine Rv.zn ?_
      refine K.seq_pure (K.assign) rfl ?_
      refine Rv.zn ?_
      refine K.seq_nil ?_
      refine K.norm_then ?_
      refine K.seq ?_
      refine K.region_lit ?_
      refine K.seq_pure (K.move) rfl ?_
      refine Rv.zn ?_
      refine K.seq_pure (K.move) rfl ?_
      refine Rv.zn ?_
      refine K.seq_pure (K.shr_int rfl rfl (by omega)) rfl ?_
      refine Rv.zn ?_
      refine K.seq_pure (K.Pure.eq (K.and_int rfl rfl) (by rw [bit_val hs8 hi])) rfl ?_
      refine Rv.zn ?_
      refine K.seq_pure (K.eql rfl rfl) rfl ?_
      refine Rv.zn ?_
      refine K.seq_nil ?_
      refine K.norm_then ?_
      refine K.cond rfl (fun ht31 => ?_) (fun ht31 => ?_)
      · try replace ht31 := of_decide_eq_true ht31
        have hbf : s.testBit i = false := by cases hb : s.testBit i with
          | false => rfl
          | true => rw [hb] at ht31; cases ht31
        refine K.region_lit ?_
        refine K.seq_pure (K.move) rfl ?_
        refine Rv.zn ?_
        refine K.seq_pure (K.indexAddr_ar ar_103 rfl rfl (by omega) (by omega)) rfl ?_
        try dsimp only [setd, setn, ev, nth, over, cl, eI, eP, eT, List.map, List.append, List.drop, List.take]
        refine K.seq_st (K.store_ix sz_3 rfl rfl (by rw [a8_len]; omega) rfl K.Rep.here) rfl ?_
        try dsimp only [setd, setn, ev, nth, over, cl, eI, eP, eT, List.map, List.append, List.drop, List.take]
        rw [a8_mkF hi hbf]
        try dsimp only [setd, setn, ev, nth, over, cl, eI, eP, eT, List.map, List.append, List.drop, List.take]
        refine K.seq_nil ?_
        refine K.norm_block ?_
        refine K.norm_then ?_
        refine K.region_lit ?_
        refine K.seq_pure (K.add_i64 rfl rfl (by omega)) rfl ?_
        refine Rv.zn ?_
        refine K.seq_pure (K.move) rfl ?_
        refine Rv.zn ?_
        refine K.seq_nil ?_
        exact K.round_endW (L'' := [K.blk b8 103 (a8 (mkI s (i + 1) (cuts kind base (l.getD k default).1 (l.getD k default).2 hs))), K.blk b7 42 [.int .i64 (l.getD k default).1, .int .i64 (l.getD k default).2], K.mp b11 none ((ddK (keysT kind base hs s (l.take k))).map kv)]) [.int .i64 ((i : Int) + 1)] ⟨i + 1, rfl, rfl, by omega⟩ (by simp [K.nth, intOf]; omega) (by (repeat (first | exact List.Sublist.refl _ | apply List.Sublist.cons)); done) (by kernel_rfl)
      try replace ht31 := of_decide_eq_false ht31
      have hbt : s.testBit i = true := by cases hb : s.testBit i with
        | true => rfl
        | false => rw [hb] at ht31; exact absurd rfl ht31
      refine K.skip ?_
      refine K.norm_block ?_
      refine K.norm_then ?_
      refine K.region_lit ?_
      refine K.seq_pure (K.add_i64 rfl rfl (by omega)) rfl ?_
      refine Rv.zn ?_
      refine K.seq_pure (K.move) rfl ?_
      refine Rv.zn ?_
      refine K.seq_nil ?_
      exact K.round_endW (L'' := [K.blk b8 103 (a8 (mkI s i (cuts kind base (l.getD k default).1 (l.getD k default).2 hs))), K.blk b7 42 [.int .i64 (l.getD k default).1, .int .i64 (l.getD k default).2], K.mp b11 none ((ddK (keysT kind base hs s (l.take k))).map kv)]) [.int .i64 ((i : Int) + 1)] ⟨i + 1, rfl, by rw [a8_mkT hbt], by omega⟩ (by simp [K.nth, intOf]; omega) (by (repeat (first | exact List.Sublist.refl _ | apply List.Sublist.cons)); done) (by kernel_rfl)
    try replace ht25 := of_decide_eq_false ht25
    have hi8 : i = 8 := by omega
    subst hi8
    refine K.exit ?_
    refine K.exit_then ?_
    refine K.exit_then ?_
    refine K.exit_here ?_
    refine K.norm_then ?_
    refine K.draw_take 1 [4, 6] Tryz_mixed ?_
    refine K.d_pure 0 rfl (K.move) (by kernel_rfl) rfl ?_
    refine Rv.zn ?_
    refine K.d_mem 1 rfl (K.loadA_own ag_103 rfl (List.Mem.head _) (by rw [a8_len]; rfl)) (fun _ h => K.take_sub 1 _ h) (by kernel_rfl) (by kernel_rfl) rfl ?_
    try dsimp only [setd, setn, ev, nth, over, cl, eI, eP, eT, List.map, List.append, List.drop, List.take]
    refine K.d_two 2 4 (by kernel_rfl) ?_ ?_
    · refine K.s_loud 2 rfl (K.lookup_mp mapT rfl rfl (K.m2) (keyOf_kv (bd_mk (g.bdc hpk))) (ks_ok (keysT_bd g hpt))) (fun _ h => K.take_sub 1 _ h) (by kernel_rfl) rfl ?_
      rintro c37 _
      try dsimp only [setd, setn, ev, nth, over, cl, eI, eP, eT, List.map, List.append, List.drop, List.take]
      refine K.d_pure 3 rfl (K.add_wrap rfl rfl) (by kernel_rfl) rfl ?_
      refine Rv.zn ?_
      refine K.d_last 4 rfl (K.mapEntry_mp (ks' := ((ddK (keysT kind base hs s (l.take k) ++ [(mkI s 8 (cuts kind base (l.getD k default).1 (l.getD k default).2 hs))])).map kv)) mapT rfl rfl (keyOf_kv (bd_mk (g.bdc hpk))) (ks_ok (keysT_bd g hpt)) (ks_ins keysT_len mkI_len) (fun _ => K.rp2)) rfl (by kernel_rfl) rfl ?_
      rintro ⟨v39, n39⟩ _
      try dsimp only [setd, setn, ev, nth, over, cl, eI, eP, eT, List.map, List.append, List.drop, List.take]
      refine K.d_pure 5 rfl (K.extract rfl rfl) (by kernel_rfl) rfl ?_
      refine Rv.zn ?_
      refine K.d_last 6 rfl (K.entryStore_mp rfl rfl rfl (K.rp2)) rfl (by kernel_rfl) rfl ?_
      intro _ _
      try dsimp only [setd, setn, ev, nth, over, cl, eI, eP, eT, List.map, List.append, List.drop, List.take]
      refine K.d_done (by kernel_rfl) ?_
      refine K.norm_block ?_
      refine K.norm_then ?_
      refine K.region_lit ?_
      refine K.seq_pure (K.add_i64 rfl rfl (by omega)) rfl ?_
      refine Rv.zn ?_
      refine K.seq_pure (K.move) rfl ?_
      refine Rv.zn ?_
      refine K.seq_nil ?_
      exact K.round_endW (L'' := [K.mp b11 none ((ddK (keysT kind base hs s (l.take k) ++ [(mkI s 8 (cuts kind base (l.getD k default).1 (l.getD k default).2 hs))])).map kv)]) [.int .i64 ((k : Int) + 1)] ⟨k + 1, rfl, by rw [keysT_snoc hk], by omega⟩ (by simp [K.nth, intOf]; omega) (by (repeat (first | exact List.Sublist.refl _ | apply List.Sublist.cons)); done) (by kernel_rfl)
    refine K.s_last 4 rfl (K.mapEntry_mp (ks' := ((ddK (keysT kind base hs s (l.take k) ++ [(mkI s 8 (cuts kind base (l.getD k default).1 (l.getD k default).2 hs))])).map kv)) mapT rfl rfl (keyOf_kv (bd_mk (g.bdc hpk))) (ks_ok (keysT_bd g hpt)) (ks_ins keysT_len mkI_len) (fun _ => K.rp2)) rfl (by kernel_rfl) rfl ?_
    rintro ⟨v39, n39⟩ _
    try dsimp only [setd, setn, ev, nth, over, cl, eI, eP, eT, List.map, List.append, List.drop, List.take]
    refine K.d_pure 5 rfl (K.extract rfl rfl) (by kernel_rfl) rfl ?_
    refine Rv.zn ?_
    refine K.d_loud 2 rfl (K.lookup_mp mapT rfl rfl (K.m2) (keyOf_kv (bd_mk (g.bdc hpk))) (ks_ok hpt1)) (fun _ h => K.take_sub 1 _ h) (by kernel_rfl) rfl ?_
    rintro c37 _
    try dsimp only [setd, setn, ev, nth, over, cl, eI, eP, eT, List.map, List.append, List.drop, List.take]
    refine K.d_pure 3 rfl (K.add_wrap rfl rfl) (by kernel_rfl) rfl ?_
    refine Rv.zn ?_
    refine K.d_last 6 rfl (K.entryStore_mp rfl rfl rfl (K.rp2)) rfl (by kernel_rfl) rfl ?_
    intro _ _
    try dsimp only [setd, setn, ev, nth, over, cl, eI, eP, eT, List.map, List.append, List.drop, List.take]
    refine K.d_done (by kernel_rfl) ?_
    refine K.norm_block ?_
    refine K.norm_then ?_
    refine K.region_lit ?_
    refine K.seq_pure (K.add_i64 rfl rfl (by omega)) rfl ?_
    refine Rv.zn ?_
    refine K.seq_pure (K.move) rfl ?_
    refine Rv.zn ?_
    refine K.seq_nil ?_
    exact K.round_endW (L'' := [K.mp b11 none ((ddK (keysT kind base hs s (l.take k) ++ [(mkI s 8 (cuts kind base (l.getD k default).1 (l.getD k default).2 hs))])).map kv)]) [.int .i64 ((k : Int) + 1)] ⟨k + 1, rfl, by rw [keysT_snoc hk], by omega⟩ (by simp [K.nth, intOf]; omega) (by (repeat (first | exact List.Sublist.refl _ | apply List.Sublist.cons)); done) (by kernel_rfl)
  try replace ht15 := of_decide_eq_false ht15
  refine K.exit ?_
  refine K.exit_then ?_
  refine K.exit_then ?_
  refine K.exit_here ?_
  refine K.norm_then ?_
  refine K.seq ?_
  refine K.region_lit ?_
  refine K.seq_pure (K.move) rfl ?_
  refine Rv.zn ?_
  refine K.seq_sil (K.len_mp ulM rfl (K.m0)) rfl ?_
  try dsimp only [setd, setn, ev, nth, over, cl, eI, eP, eT, List.map, List.append, List.drop, List.take]
  refine K.seq_sil (K.load1 one_55 rfl (hl.any)) rfl ?_
  try dsimp only [setd, setn, ev, nth, over, cl, eI, eP, eT, List.map, List.append, List.drop, List.take]
  refine K.seq_pure (K.len_sl sl_55 rfl) rfl ?_
  refine Rv.zn ?_
  refine K.seq_pure (K.eql rfl rfl) rfl ?_
  refine Rv.zn ?_
  refine K.seq_pure (K.assign) rfl ?_
  refine Rv.zn ?_
  refine K.seq_nil ?_
  refine K.norm_then ?_
  refine K.ret ?_
  refine K.end_ret (fun w _ => K.res_tmp rfl w) ?_
  have hjj : l.take k = l := take_all (by omega)
  rw [hjj]
  exact K.gives_b rfl (by unfold apB; rw [List.length_map]; simp only [Int.natCast_inj])

end Go.Proofs.YtekkpcpbnonkaaaGreatDoor.Sc
end
section
set_option linter.unusedSimpArgs false
set_option linter.unusedVariables false
namespace Go.Proofs.YtekkpcpbnonkaaaGreatDoor.Sc
open Go.RowKit Go
open Go.K (setd setn ev nth over cl eI eP eT setM setF)
attribute [local irreducible] K.blk K.row
def uand (a b : Int) : Int := IntKind.u64.wrap (BitVec.ofInt IntKind.u64.bits a &&& BitVec.ofInt IntKind.u64.bits b).toNat
def ushr (a n : Int) : Int := a.fdiv (2 ^ min n.toNat IntKind.u64.bits)
def oc1 (x : Int) : Int := IntKind.u64.wrap (uand (ushr x 1) 6148914691236517205 + uand x 6148914691236517205)
def oc2 (x : Int) : Int := IntKind.u64.wrap (uand (ushr x 2) 3689348814741910323 + uand x 3689348814741910323)
def oc3 (x : Int) : Int := uand (IntKind.u64.wrap (ushr x 4 + x)) 1085102592571150095
def oc4 (n x : Int) : Int := IntKind.u64.wrap (x + ushr x n)
def oc5 (x : Int) : Int := IntKind.i64.wrap (BitVec.ofInt IntKind.i64.bits (IntKind.i64.wrap x) &&& BitVec.ofInt IntKind.i64.bits 127).toNat
theorem oc_all : (List.range 256).all (fun s => decide (oc5 (oc4 32 (oc4 16 (oc4 8 (oc3 (oc2 (oc1 ((s : Nat) : Int))))))) = ((popN s : Nat) : Int))) = true := by decide +kernel
theorem oc_val {s : Nat} (hs : s < 256) : oc5 (oc4 32 (oc4 16 (oc4 8 (oc3 (oc2 (oc1 (s : Int))))))) = (popN s : Int) := by
  have h := List.all_eq_true.1 oc_all s (List.mem_range.2 hs)
  simpa using h
theorem ik_156 : K.ik Tryz.prog 156 = some .u64 := by kernel_rfl
theorem ik_126 : K.ik Tryz.prog 126 = some .u64 := by kernel_rfl
theorem wrapU {s : Nat} (hs : s < 256) : IntKind.u64.wrap (s : Int) = s := by
  have h : (List.range 256).all (fun s => decide (IntKind.u64.wrap ((s : Nat) : Int) = ((s : Nat) : Int))) = true := by decide +kernel
  have := List.all_eq_true.1 h s (List.mem_range.2 hs)
  simpa using this

set_option maxRecDepth 100000 in
theorem c95 {s : Nat} (hs8 : s < 256) (w : World) :
    Calls Tryz.prog 93 [.int .u64 s].toArray w (K.Gives (.int .i64 (popN s)) w) := by
  refine K.enter (args := [.int .u64 s]) Tryz.func93 rfl (n := 34) rfl ?_
  simp only [List.replicate, List.cons_append, List.nil_append]
  refine K.seq ?_
  refine K.region_lit ?_
  refine K.seq_pure (K.assign) rfl ?_
  refine Rv.zn ?_
  refine K.seq_nil ?_
  refine K.norm_then ?_
  refine K.seq ?_
  refine K.region_lit ?_
  refine K.seq_pure (K.move) rfl ?_
  refine Rv.zn ?_
  refine K.seq_pure (K.shr_int rfl rfl (by decide)) rfl ?_
  refine Rv.zn ?_
  refine K.seq_pure (K.and_int rfl rfl) rfl ?_
  refine Rv.zn ?_
  refine K.seq_pure (K.move) rfl ?_
  refine Rv.zn ?_
  refine K.seq_pure (K.and_int rfl rfl) rfl ?_
  refine Rv.zn ?_
  refine K.seq_pure (K.Pure.eq (K.add_wrap rfl rfl) (show _ = .int .u64 (oc1 s) from rfl)) rfl ?_
  refine Rv.zn ?_
  refine K.seq_pure (K.assign) rfl ?_
  refine Rv.zn ?_
  refine K.seq_nil ?_
  refine K.norm_then ?_
  refine K.seq ?_
  refine K.region_lit ?_
  refine K.seq_pure (K.move) rfl ?_
  refine Rv.zn ?_
  refine K.seq_pure (K.shr_int rfl rfl (by decide)) rfl ?_
  refine Rv.zn ?_
  refine K.seq_pure (K.and_int rfl rfl) rfl ?_
  refine Rv.zn ?_
  refine K.seq_pure (K.move) rfl ?_
  refine Rv.zn ?_
  refine K.seq_pure (K.and_int rfl rfl) rfl ?_
  refine Rv.zn ?_
  refine K.seq_pure (K.Pure.eq (K.add_wrap rfl rfl) (show _ = .int .u64 (oc2 (oc1 s)) from rfl)) rfl ?_
  refine Rv.zn ?_
  refine K.seq_pure (K.assign) rfl ?_
  refine Rv.zn ?_
  refine K.seq_nil ?_
  refine K.norm_then ?_
  refine K.seq ?_
  refine K.region_lit ?_
  refine K.seq_pure (K.move) rfl ?_
  refine Rv.zn ?_
  refine K.seq_pure (K.shr_int rfl rfl (by decide)) rfl ?_
  refine Rv.zn ?_
  refine K.seq_pure (K.move) rfl ?_
  refine Rv.zn ?_
  refine K.seq_pure (K.add_wrap rfl rfl) rfl ?_
  refine Rv.zn ?_
  refine K.seq_pure (K.Pure.eq (K.and_int rfl rfl) (show _ = .int .u64 (oc3 (oc2 (oc1 s))) from rfl)) rfl ?_
  refine Rv.zn ?_
  refine K.seq_pure (K.assign) rfl ?_
  refine Rv.zn ?_
  refine K.seq_nil ?_
  refine K.norm_then ?_
  refine K.seq ?_
  refine K.region_lit ?_
  refine K.seq_pure (K.move) rfl ?_
  refine Rv.zn ?_
  refine K.seq_pure (K.move) rfl ?_
  refine Rv.zn ?_
  refine K.seq_pure (K.shr_int rfl rfl (by decide)) rfl ?_
  refine Rv.zn ?_
  refine K.seq_pure (K.Pure.eq (K.add_wrap rfl rfl) (show _ = .int .u64 (oc4 8 (oc3 (oc2 (oc1 s)))) from rfl)) rfl ?_
  refine Rv.zn ?_
  refine K.seq_pure (K.assign) rfl ?_
  refine Rv.zn ?_
  refine K.seq_nil ?_
  refine K.norm_then ?_
  refine K.seq ?_
  refine K.region_lit ?_
  refine K.seq_pure (K.move) rfl ?_
  refine Rv.zn ?_
  refine K.seq_pure (K.move) rfl ?_
  refine Rv.zn ?_
  refine K.seq_pure (K.shr_int rfl rfl (by decide)) rfl ?_
  refine Rv.zn ?_
  refine K.seq_pure (K.Pure.eq (K.add_wrap rfl rfl) (show _ = .int .u64 (oc4 16 (oc4 8 (oc3 (oc2 (oc1 s))))) from rfl)) rfl ?_
  refine Rv.zn ?_
  refine K.seq_pure (K.assign) rfl ?_
  refine Rv.zn ?_
  refine K.seq_nil ?_
  refine K.norm_then ?_
  refine K.seq ?_
  refine K.region_lit ?_
  refine K.seq_pure (K.move) rfl ?_
  refine Rv.zn ?_
  refine K.seq_pure (K.move) rfl ?_
  refine Rv.zn ?_
  refine K.seq_pure (K.shr_int rfl rfl (by decide)) rfl ?_
  refine Rv.zn ?_
  refine K.seq_pure (K.Pure.eq (K.add_wrap rfl rfl) (show _ = .int .u64 (oc4 32 (oc4 16 (oc4 8 (oc3 (oc2 (oc1 s)))))) from rfl)) rfl ?_
  refine Rv.zn ?_
  refine K.seq_pure (K.assign) rfl ?_
  refine Rv.zn ?_
  refine K.seq_nil ?_
  refine K.norm_then ?_
  refine K.seq ?_
  refine K.region_lit ?_
  refine K.seq_pure (K.move) rfl ?_
  refine Rv.zn ?_
  refine K.seq_pure (K.conv_int ik_156 ik_3 rfl) rfl ?_
  try dsimp only [setd, setn, ev, nth, over, cl, eI, eP, eT, List.map, List.append, List.drop, List.take]
  refine K.seq_pure (K.and_int rfl rfl) rfl ?_
  refine Rv.zn ?_
  refine K.seq_pure (K.assign) rfl ?_
  refine Rv.zn ?_
  refine K.seq_nil ?_
  refine K.norm_then ?_
  refine K.ret ?_
  refine K.end_ret (fun w _ => K.res_tmp rfl w) ?_
  exact K.gives_i rfl (oc_val hs8)

set_option maxRecDepth 100000 in
theorem c76 {s : Nat} (hs8 : s < 256) (w : World) :
    Calls Tryz.prog 62 [.int .u64 s].toArray w (K.Gives (.int .i64 (popN s)) w) := by
  refine K.enter (args := [.int .u64 s]) Tryz.func62 rfl (n := 7) rfl ?_
  simp only [List.replicate, List.cons_append, List.nil_append]
  refine K.seq ?_
  refine K.region_lit ?_
  refine K.seq_pure (K.assign) rfl ?_
  refine Rv.zn ?_
  refine K.seq_nil ?_
  refine K.norm_then ?_
  refine K.seq ?_
  refine K.cond_false rfl ?_
  refine K.skip ?_
  refine K.norm_then ?_
  refine K.seq ?_
  refine K.region_lit ?_
  refine K.seq_pure (K.move) rfl ?_
  refine Rv.zn ?_
  refine K.seq_call (K.call_g cal_93 (fun F w hF hw => c95 hs8 w)) rfl ?_
  try dsimp only [setd, setn, ev, nth, over, cl, eI, eP, eT, List.map, List.append, List.drop, List.take]
  refine K.seq_pure (K.assign) rfl ?_
  refine Rv.zn ?_
  refine K.seq_nil ?_
  refine K.norm_then ?_
  refine K.ret ?_
  refine K.end_ret (fun w _ => K.res_tmp rfl w) ?_
  exact K.gives rfl

set_option maxRecDepth 100000 in
theorem c77 {A B : Option Addr} {c d : Nat} {xs ys : List Int} {w : World} (hX : K.Rd w A 1 K.eI xs) (hY : K.Rd w B 1 K.eI ys) (hn : xs.length ≤ 4611686018427387904) (hm : ys.length ≤ 4611686018427387904) :
    Calls Tryz.prog 63 [.slice A xs.length c, .slice B ys.length d].toArray w (K.Gives (.int .i64 (cmpL xs ys)) w) := by
  refine K.enter (args := [.slice A xs.length c, .slice B ys.length d]) Tryz.func63 rfl (n := 34) rfl ?_
  simp only [List.replicate, List.cons_append, List.nil_append]
  refine K.seq ?_
  refine K.region_lit ?_
  refine K.seq_pure (K.assign) rfl ?_
  refine Rv.zn ?_
  refine K.seq_nil ?_
  refine K.norm_then ?_
  refine K.seq ?_
  refine K.seq ?_
  refine K.region_lit ?_
  refine K.seq_pure (K.move) rfl ?_
  refine Rv.zn ?_
  refine K.seq_pure (K.len_sl sl_28 rfl) rfl ?_
  refine Rv.zn ?_
  refine K.seq_pure (K.move) rfl ?_
  refine Rv.zn ?_
  refine K.seq_nil ?_
  refine K.norm_then ?_
  refine K.block ?_
  refine K.loopW [11] [4, 5, 6, 7, 8, 12, 13, 14, 15, 16, 17, 18, 19, 20, 21, 22, 23, 24, 25, 26, 27, 28, 29, 30] (fun vi L => ∃ k : Nat, vi = [.int .i64 (k : Int)] ∧ L = [] ∧ k ≤ xs.length ∧ k ≤ ys.length ∧ ∀ j, j < k → xs.getD j default = ys.getD j default) (fun vi => xs.length - (intOf (K.nth vi 0)).toNat) ?_ ?_
  · exact ⟨0, rfl, rfl, Nat.zero_le _, Nat.zero_le _, fun j hj => absurd hj (Nat.not_lt_zero j)⟩
  intro vi vr L hJ
  obtain ⟨k, rfl, rfl, hkn, hkm, hall⟩ := hJ
  try dsimp only [setd, setn, ev, nth, over, cl, eI, eP, eT, setM, setF, List.map, List.append, List.drop, List.take]
  refine K.seq ?_
  refine K.region_lit ?_
  refine K.seq_pure (K.lss rfl rfl) rfl ?_
  refine Rv.zn ?_
  refine K.seq_nil ?_
  refine K.norm_then ?_
  refine K.seq ?_
  refine K.cond rfl (fun ht12 => ?_) (fun ht12 => ?_)
  · try replace ht12 := of_decide_eq_true ht12
    have hk : k < xs.length := by omega
    refine K.skip ?_
    refine K.norm_then ?_
    refine K.seq ?_
    refine K.block ?_
    refine K.seq ?_
    refine K.region_lit ?_
    refine K.seq_pure (K.move) rfl ?_
    refine Rv.zn ?_
    refine K.seq_ix (M := []) _ hX.sl sl_28 rfl rfl rfl (by omega) rfl ?_
    intro p14 hp14
    try dsimp only [setd, setn, ev, nth, over, cl, eI, eP, eT, List.map, List.append, List.drop, List.take]
    refine K.seq_sil (K.load1 one_3 rfl (hp14.any)) rfl ?_
    try dsimp only [setd, setn, ev, nth, over, cl, eI, eP, eT, List.map, List.append, List.drop, List.take]
    refine K.seq_pure (K.assign) rfl ?_
    refine Rv.zn ?_
    refine K.seq_pure (K.assign) rfl ?_
    refine Rv.zn ?_
    refine K.seq_nil ?_
    refine K.norm_then ?_
    refine K.seq ?_
    refine K.seq ?_
    refine K.region_lit ?_
    refine K.seq_pure (K.move) rfl ?_
    refine Rv.zn ?_
    refine K.seq_pure (K.move) rfl ?_
    refine Rv.zn ?_
    refine K.seq_pure (K.len_sl sl_28 rfl) rfl ?_
    refine Rv.zn ?_
    refine K.seq_pure (K.geq rfl rfl) rfl ?_
    refine Rv.zn ?_
    refine K.seq_nil ?_
    refine K.norm_then ?_
    refine K.cond rfl (fun ht19 => ?_) (fun ht19 => ?_)
    · try replace ht19 := of_decide_eq_true ht19
      refine K.seq ?_
      refine K.region_lit ?_
      refine K.seq_pure (K.assign) rfl ?_
      refine Rv.zn ?_
      refine K.seq_nil ?_
      refine K.norm_then ?_
      refine K.ret ?_
      refine K.ret_then ?_
      refine K.ret_block ?_
      refine K.ret_then ?_
      refine K.ret_then ?_
      refine K.ret_block ?_
      refine K.ret_then ?_
      refine K.end_ret (fun w _ => K.res_tmp rfl w) ?_
      exact K.gives_i rfl (cmpL_long hall hk (by omega)).symm
    try replace ht19 := of_decide_eq_false ht19
    have hk2 : k < ys.length := by omega
    refine K.skip ?_
    refine K.norm_then ?_
    refine K.seq ?_
    refine K.region_lit ?_
    refine K.seq_pure (K.move) rfl ?_
    refine Rv.zn ?_
    refine K.seq_pure (K.move) rfl ?_
    refine Rv.zn ?_
    refine K.seq_ix (M := []) _ hY.sl sl_28 rfl rfl rfl (by omega) rfl ?_
    intro p22 hp22
    try dsimp only [setd, setn, ev, nth, over, cl, eI, eP, eT, List.map, List.append, List.drop, List.take]
    refine K.seq_sil (K.load1 one_3 rfl (hp22.any)) rfl ?_
    try dsimp only [setd, setn, ev, nth, over, cl, eI, eP, eT, List.map, List.append, List.drop, List.take]
    refine K.seq_pure (K.assign) rfl ?_
    refine Rv.zn ?_
    refine K.seq_nil ?_
    refine K.norm_then ?_
    refine K.seq ?_
    refine K.region_lit ?_
    refine K.seq_pure (K.move) rfl ?_
    refine Rv.zn ?_
    refine K.seq_pure (K.move) rfl ?_
    refine Rv.zn ?_
    refine K.seq_call (K.call_g cal_94 (fun F w hF hw => c96 w)) rfl ?_
    try dsimp only [setd, setn, ev, nth, over, cl, eI, eP, eT, List.map, List.append, List.drop, List.take]
    refine K.seq_pure (K.assign) rfl ?_
    refine Rv.zn ?_
    refine K.seq_nil ?_
    refine K.norm_then ?_
    refine K.seq ?_
    refine K.region_lit ?_
    refine K.seq_pure (K.move) rfl ?_
    refine Rv.zn ?_
    refine K.seq_pure (K.neq rfl rfl) rfl ?_
    refine Rv.zn ?_
    refine K.seq_nil ?_
    refine K.norm_then ?_
    refine K.cond rfl (fun ht28 => ?_) (fun ht28 => ?_)
    · try replace ht28 := of_decide_eq_true ht28
      refine K.seq ?_
      refine K.region_lit ?_
      refine K.seq_pure (K.move) rfl ?_
      refine Rv.zn ?_
      refine K.seq_pure (K.assign) rfl ?_
      refine Rv.zn ?_
      refine K.seq_nil ?_
      refine K.norm_then ?_
      refine K.ret ?_
      refine K.ret_block ?_
      refine K.ret_then ?_
      refine K.ret_then ?_
      refine K.ret_block ?_
      refine K.ret_then ?_
      refine K.end_ret (fun w _ => K.res_tmp rfl w) ?_
      exact K.gives_i rfl (cmpL_diff hall hk hk2 (by omega)).symm
    try replace ht28 := of_decide_eq_false ht28
    refine K.skip ?_
    refine K.norm_block ?_
    refine K.norm_then ?_
    refine K.region_lit ?_
    refine K.seq_pure (K.add_i64 rfl rfl (by omega)) rfl ?_
    refine Rv.zn ?_
    refine K.seq_pure (K.move) rfl ?_
    refine Rv.zn ?_
    refine K.seq_nil ?_
    exact K.round_endW [.int .i64 ((k : Int) + 1)] ⟨k + 1, rfl, rfl, by omega, by omega, K.lt_succ_case hall (cmp0 (by omega))⟩ (by simp [K.nth, intOf]; omega) (List.Sublist.refl _) (by kernel_rfl)
  try replace ht12 := of_decide_eq_false ht12
  refine K.exit ?_
  refine K.exit_then ?_
  refine K.exit_then ?_
  refine K.exit_here ?_
  refine K.norm_then ?_
  refine K.seq ?_
  refine K.seq ?_
  refine K.region_lit ?_
  refine K.seq_pure (K.move) rfl ?_
  refine Rv.zn ?_
  refine K.seq_pure (K.len_sl sl_28 rfl) rfl ?_
  refine Rv.zn ?_
  refine K.seq_pure (K.move) rfl ?_
  refine Rv.zn ?_
  refine K.seq_pure (K.len_sl sl_28 rfl) rfl ?_
  refine Rv.zn ?_
  refine K.seq_pure (K.lss rfl rfl) rfl ?_
  refine Rv.zn ?_
  refine K.seq_nil ?_
  refine K.norm_then ?_
  refine K.cond rfl (fun ht35 => ?_) (fun ht35 => ?_)
  · try replace ht35 := of_decide_eq_true ht35
    refine K.seq ?_
    refine K.region_lit ?_
    refine K.seq_pure (K.assign) rfl ?_
    refine Rv.zn ?_
    refine K.seq_nil ?_
    refine K.norm_then ?_
    refine K.ret ?_
    refine K.ret_then ?_
    refine K.end_ret (fun w _ => K.res_tmp rfl w) ?_
    exact K.gives_i rfl (cmpL_short hall (by omega) (by omega)).symm
  try replace ht35 := of_decide_eq_false ht35
  refine K.skip ?_
  refine K.norm_then ?_
  refine K.seq ?_
  refine K.region_lit ?_
  refine K.seq_pure (K.assign) rfl ?_
  refine Rv.zn ?_
  refine K.seq_nil ?_
  refine K.norm_then ?_
  refine K.ret ?_
  refine K.end_ret (fun w _ => K.res_tmp rfl w) ?_
  exact K.gives_i rfl (cmpL_same hall (by omega) (by omega)).symm

end Go.Proofs.YtekkpcpbnonkaaaGreatDoor.Sc
end
section
set_option linter.unusedSimpArgs false
set_option linter.unusedVariables false
namespace Go.Proofs.YtekkpcpbnonkaaaGreatDoor.Sc
open Go.RowKit Go
open Go.K (setd setn ev nth over cl eI eP eT setM setF)
attribute [local irreducible] K.blk K.row

set_option maxRecDepth 100000 in
theorem c34 {kind base most : Int} {A B : Option Addr} {c d : Nat} {hs : List Int} {rs : List (Int × Int)} {l : List (Int × Int)} {C : Option Addr} {cc : Nat} {w : World} (hH : K.Rd w A 1 K.eI hs) (hR : K.Rd w B 2 K.eP rs) (hn : hs.length ≤ 4611686018427387904) (hm : rs.length ≤ 4611686018427387904) (hS : K.Rd w C 2 K.eP l) (hl : l.length ≤ 4611686018427387904) :
    Calls Tryz.prog 27 [.agg #[.int .i64 kind, .int .i64 base, .int .i64 most, .slice A hs.length c, .slice B rs.length d], .slice C l.length cc].toArray w (K.RetSE 3 1 K.eI (tellR kind base most hs rs l) (tellE kind base most hs rs l) w) := by
  refine K.enter (args := [.agg #[.int .i64 kind, .int .i64 base, .int .i64 most, .slice A hs.length c, .slice B rs.length d], .slice C l.length cc]) Tryz.func27 rfl (n := 97) rfl ?_
  simp only [List.replicate, List.cons_append, List.nil_append]
  refine K.seq ?_
  refine K.region_lit ?_
  refine K.seq_new (K.box) rfl ?_
  intro b2
  try dsimp only [setd, setn, ev, nth, over, cl, eI, eP, eT, List.map, List.append, List.drop, List.take]
  refine K.seq_new (K.box) rfl ?_
  intro b3
  try dsimp only [setd, setn, ev, nth, over, cl, eI, eP, eT, List.map, List.append, List.drop, List.take]
  refine K.seq_pure (K.assign) rfl ?_
  refine Rv.zn ?_
  refine K.seq_pure (K.assign) rfl ?_
  refine Rv.zn ?_
  refine K.seq_nil ?_
  refine K.norm_then ?_
  refine K.seq ?_
  refine K.seq ?_
  refine K.region_lit ?_
  refine K.seq_sil (K.loadA_own ag_38 rfl (K.m1) rfl) rfl ?_
  try dsimp only [setd, setn, ev, nth, over, cl, eI, eP, eT, List.map, List.append, List.drop, List.take]
  refine K.seq_call (K.call_g cal_60 (fun F w hF hw => c15 (hH.pass hw) (hR.pass hw) hn hm)) rfl ?_
  try dsimp only [setd, setn, ev, nth, over, cl, eI, eP, eT, List.map, List.append, List.drop, List.take]
  refine K.seq_pure (K.move) rfl ?_
  refine Rv.zn ?_
  refine K.seq_pure (K.extract rfl rfl) rfl ?_
  refine Rv.zn ?_
  refine K.seq_pure (K.extract rfl rfl) rfl ?_
  refine Rv.zn ?_
  refine K.seq_pure (K.extract rfl rfl) rfl ?_
  refine Rv.zn ?_
  refine K.seq_pure (K.assign) rfl ?_
  refine Rv.zn ?_
  refine K.seq_nil ?_
  refine K.norm_then ?_
  refine K.seq ?_
  refine K.region_lit ?_
  refine K.seq_pure (K.move) rfl ?_
  refine Rv.zn ?_
  refine K.seq_pure (K.eql rfl rfl) rfl ?_
  refine Rv.zn ?_
  refine K.seq_pure (K.move) rfl ?_
  refine Rv.zn ?_
  refine K.split 20 rfl (fun hg20 => ?_) (fun hg20 => ?_)
  · try replace hg20 := of_decide_eq_true hg20
    have hc0 : (chk kind base most hs rs).2.2 = 0 := by omega
    have g := chk_good hc0
    have g1 := g.k
    have g2 := g.n
    have g3 := g.r
    have g4 := g.b
    have g5 := g.m
    refine K.seq_sil (K.load1_own one_55 rfl (K.m0) rfl) rfl ?_
    try dsimp only [setd, setn, ev, nth, over, cl, eI, eP, eT, List.map, List.append, List.drop, List.take]
    refine K.seq_pure (K.len_sl sl_55 rfl) rfl ?_
    refine Rv.zn ?_
    refine K.seq_pure (K.gtr rfl rfl) rfl ?_
    refine Rv.zn ?_
    refine K.seq_pure (K.pick_t rfl) rfl ?_
    refine Rv.zn ?_
    refine K.seq_nil ?_
    refine K.norm_then ?_
    refine K.cond rfl (fun ht24 => ?_) (fun ht24 => ?_)
    · try replace ht24 := of_decide_eq_true ht24
      refine K.region_lit ?_
      refine K.seq_pure (K.assign) rfl ?_
      refine Rv.zn ?_
      refine K.seq_nil ?_
      refine K.norm_then ?_
      refine K.seq ?_
      refine K.seq ?_
      refine K.region_lit ?_
      refine K.seq_pure (K.move) rfl ?_
      refine Rv.zn ?_
      refine K.seq_pure (K.neq rfl rfl) rfl ?_
      refine Rv.zn ?_
      refine K.seq_nil ?_
      refine K.norm_then ?_
      refine K.cond rfl (fun ht26 => ?_) (fun ht26 => ?_)
      · try replace ht26 := of_decide_eq_true ht26
        refine K.seq ?_
        refine K.region_lit ?_
        refine K.seq_pure (K.move) rfl ?_
        refine Rv.zn ?_
        refine K.seq_pure (K.assign) rfl ?_
        refine Rv.zn ?_
        refine K.seq_pure (K.assign) rfl ?_
        refine Rv.zn ?_
        refine K.seq_nil ?_
        refine K.norm_then ?_
        refine K.ret ?_
        refine K.ret_then ?_
        refine K.end_ret (fun w _ => K.res_tmp2 rfl w) ?_
        first | exact K.rets_se0 (tr_bad (by rw [te_chk ht26]; exact ht26)) (te_chk ht26).symm rfl | exact K.rets_se0 (tr_bad (by rw [te_long hc0 (by omega)]; decide)) (te_long hc0 (by omega)).symm rfl
      try replace ht26 := of_decide_eq_false ht26
      exact absurd (by decide) ht26
    try replace ht24 := of_decide_eq_false ht24
    refine K.skip ?_
    refine K.norm_then ?_
    refine K.seq ?_
    refine K.seq ?_
    refine K.region_lit ?_
    refine K.seq_pure (K.move) rfl ?_
    refine Rv.zn ?_
    refine K.seq_pure (K.neq rfl rfl) rfl ?_
    refine Rv.zn ?_
    refine K.seq_nil ?_
    refine K.norm_then ?_
    refine K.cond rfl (fun ht26 => ?_) (fun ht26 => ?_)
    · try replace ht26 := of_decide_eq_true ht26
      refine K.seq ?_
      refine K.region_lit ?_
      refine K.seq_pure (K.move) rfl ?_
      refine Rv.zn ?_
      refine K.seq_pure (K.assign) rfl ?_
      refine Rv.zn ?_
      refine K.seq_pure (K.assign) rfl ?_
      refine Rv.zn ?_
      refine K.seq_nil ?_
      refine K.norm_then ?_
      refine K.ret ?_
      refine K.ret_then ?_
      refine K.end_ret (fun w _ => K.res_tmp2 rfl w) ?_
      first | exact K.rets_se0 (tr_bad (by rw [te_chk ht26]; exact ht26)) (te_chk ht26).symm rfl | exact K.rets_se0 (tr_bad (by rw [te_long hc0 (by omega)]; decide)) (te_long hc0 (by omega)).symm rfl
    try replace ht26 := of_decide_eq_false ht26
    refine K.skip ?_
    refine K.norm_then ?_
    refine K.seq ?_
    refine K.region_lit ?_
    refine K.seq_sil (K.loadA_own ag_38 rfl (K.m1) rfl) rfl ?_
    try dsimp only [setd, setn, ev, nth, over, cl, eI, eP, eT, List.map, List.append, List.drop, List.take]
    refine K.seq_sil (K.load1_own one_55 rfl (K.m0) rfl) rfl ?_
    try dsimp only [setd, setn, ev, nth, over, cl, eI, eP, eT, List.map, List.append, List.drop, List.take]
    refine K.seq_call (K.call_g cal_44 (fun F w hF hw => c58 (l := l) (hH.pass hw) (hR.pass hw) g (hS.pass hw) hl)) rfl ?_
    try dsimp only [setd, setn, ev, nth, over, cl, eI, eP, eT, List.map, List.append, List.drop, List.take]
    refine K.seq_pure (K.move) rfl ?_
    refine Rv.zn ?_
    refine K.seq_pure (K.extract rfl rfl) rfl ?_
    refine Rv.zn ?_
    refine K.seq_pure (K.extract rfl rfl) rfl ?_
    refine Rv.zn ?_
    refine K.seq_new (K.alloc zr_99) rfl ?_
    intro b6
    try dsimp only [setd, setn, ev, nth, over, cl, eI, eP, eT, List.map, List.append, List.drop, List.take]
    refine K.seq_st (K.store_all sz_99 rfl rfl rfl rfl (K.rp0)) rfl ?_
    try dsimp only [setd, setn, ev, nth, over, cl, eI, eP, eT, List.map, List.append, List.drop, List.take]
    refine K.seq_pure (K.assign) rfl ?_
    refine Rv.zn ?_
    refine K.seq_nil ?_
    refine K.norm_then ?_
    refine K.seq ?_
    refine K.seq ?_
    refine K.region_lit ?_
    refine K.seq_pure (K.move) rfl ?_
    refine Rv.zn ?_
    refine K.seq_pure (K.neq rfl rfl) rfl ?_
    refine Rv.zn ?_
    refine K.seq_nil ?_
    refine K.norm_then ?_
    refine K.cond rfl (fun ht35 => ?_) (fun ht35 => ?_)
    · try replace ht35 := of_decide_eq_true ht35
      skip
      refine K.seq ?_
      refine K.region_lit ?_
      refine K.seq_pure (K.move) rfl ?_
      refine Rv.zn ?_
      refine K.seq_pure (K.assign) rfl ?_
      refine Rv.zn ?_
      refine K.seq_pure (K.assign) rfl ?_
      refine Rv.zn ?_
      refine K.seq_nil ?_
      refine K.norm_then ?_
      refine K.ret ?_
      refine K.ret_then ?_
      refine K.end_ret (fun w _ => K.res_tmp2 rfl w) ?_
      exact K.rets_se0 (tr_bad (by rw [te_sc hc0 (by omega) ht35]; exact ht35)) (te_sc hc0 (by omega) ht35).symm rfl
    try replace ht35 := of_decide_eq_false ht35
    have hsc : scsE l = 0 := by omega
    have hpp := scsE_parts hsc
    obtain ⟨N, hN⟩ : ∃ N, N = 2 ^ hs.length := ⟨_, rfl⟩
    have hN1 : N ≤ 256 := by rw [hN]; exact pow_bd g2.2
    have hN0 : 0 < N := by rw [hN]; exact Nat.two_pow_pos _
    refine K.skip ?_
    refine K.norm_then ?_
    refine K.seq ?_
    refine K.region_lit ?_
    refine K.nil_row (e := 3) (size := 1) ?_
    refine K.seq_pure (K.mkFunc) rfl ?_
    try dsimp only [setd, setn, ev, nth, over, cl, eI, eP, eT, List.map, List.append, List.drop, List.take]
    refine K.seq_pure (K.assign) rfl ?_
    refine Rv.zn ?_
    refine K.seq_nil ?_
    refine K.norm_then ?_
    refine K.seq ?_
    refine K.seq ?_
    refine K.region_lit ?_
    refine K.seq_pure (K.move) rfl ?_
    refine Rv.zn ?_
    refine K.seq_pure (K.fieldAddr_lit fo_38_3 rfl) rfl ?_
    refine Rv.zn ?_
    refine K.seq_sil (K.load1_own one_28 rfl (K.m3) rfl) rfl ?_
    try dsimp only [setd, setn, ev, nth, over, cl, eI, eP, eT, List.map, List.append, List.drop, List.take]
    refine K.seq_pure (K.len_sl sl_28 rfl) rfl ?_
    refine Rv.zn ?_
    refine K.seq_pure (K.Pure.eq (K.shl_int rfl rfl (by omega)) (by rw [shl_val g2.2, ← hN])) rfl ?_
    refine Rv.zn ?_
    refine K.seq_pure (K.Pure.eq (K.sub_i64 rfl rfl (by omega)) (by rw [show ((N : Nat) : Int) - 1 = ((N - 1 : Nat) : Int) by omega])) rfl ?_
    refine Rv.zn ?_
    refine K.seq_call (K.callv_g (first := []) (cap := [.pointer (some ⟨b3, 0, none⟩), .pointer (some ⟨b6, 0, none⟩)]) rfl cal_75 (fun F w hF hw => c75 (s := N - 1) (K.PtrL.now hw (hF _ (K.m2))) (K.PtrL.now hw (hF _ (K.m1))) (hS.pass hw) (hH.pass hw) g hpp (by omega) (by omega))) rfl ?_
    try dsimp only [setd, setn, ev, nth, over, cl, eI, eP, eT, List.map, List.append, List.drop, List.take]
    first | refine K.seq_pure (K.not_d rfl) rfl ?_ | refine K.seq_pure (K.not_ rfl) rfl ?_
    try dsimp only [setd, setn, ev, nth, over, cl, eI, eP, eT, List.map, List.append, List.drop, List.take]
    refine K.seq_nil ?_
    refine K.norm_then ?_
    refine K.cond rfl (fun ht45 => ?_) (fun ht45 => ?_)
    · try replace ht45 := of_decide_eq_true ht45
      refine K.seq ?_
      refine K.region_lit ?_
      refine K.seq_pure (K.assign) rfl ?_
      refine Rv.zn ?_
      refine K.seq_pure (K.assign) rfl ?_
      refine Rv.zn ?_
      refine K.seq_nil ?_
      refine K.norm_then ?_
      refine K.ret ?_
      refine K.ret_then ?_
      refine K.end_ret (fun w _ => K.res_tmp2 rfl w) ?_
      have hap0 : apB kind base hs l (2 ^ hs.length - 1) = false := by rw [← hN]; unfold apB; simpa using ht45
      exact K.rets_se0 (tr_bad (by rw [te_tw hc0 (by omega) hsc hap0]; decide)) (te_tw hc0 (by omega) hsc hap0).symm rfl
    try replace ht45 := of_decide_eq_false ht45
    have hap1 : apB kind base hs l (2 ^ hs.length - 1) = true := by rw [← hN]; unfold apB; simpa using ht45
    refine K.skip ?_
    refine K.norm_then ?_
    refine K.seq ?_
    refine K.region_lit ?_
    refine K.seq_pure (K.fieldAddr_lit fo_38_3 rfl) rfl ?_
    refine Rv.zn ?_
    refine K.seq_sil (K.load1_own one_28 rfl (K.m3) rfl) rfl ?_
    try dsimp only [setd, setn, ev, nth, over, cl, eI, eP, eT, List.map, List.append, List.drop, List.take]
    refine K.seq_pure (K.len_sl sl_28 rfl) rfl ?_
    refine Rv.zn ?_
    refine K.seq_pure (K.add_i64 rfl rfl (by omega)) rfl ?_
    refine Rv.zn ?_
    refine K.seq_pure (K.assign) rfl ?_
    refine Rv.zn ?_
    refine K.seq_nil ?_
    refine K.norm_then ?_
    refine K.seq ?_
    refine K.seq ?_
    refine K.region_lit ?_
    refine K.seq_pure (K.fieldAddr_lit fo_38_3 rfl) rfl ?_
    refine Rv.zn ?_
    refine K.seq_sil (K.load1_own one_28 rfl (K.m3) rfl) rfl ?_
    try dsimp only [setd, setn, ev, nth, over, cl, eI, eP, eT, List.map, List.append, List.drop, List.take]
    refine K.seq_pure (K.len_sl sl_28 rfl) rfl ?_
    refine Rv.zn ?_
    refine K.seq_pure (K.Pure.eq (K.shl_int rfl rfl (by omega)) (by rw [shl_val g2.2, ← hN])) rfl ?_
    refine Rv.zn ?_
    refine K.seq_pure (K.move) rfl ?_
    refine Rv.zn ?_
    refine K.seq_nil ?_
    refine K.norm_then ?_
    refine K.block ?_
    refine K.loopW [4, 8, 54] [9, 10, 11, 55, 56, 57, 58, 59, 60, 61, 62, 63, 64, 65, 66, 67, 68, 69, 70, 71, 72, 73, 74, 75, 76, 77, 78, 79, 80, 81, 82, 83, 84, 85, 86, 87, 88, 89, 90, 91, 92, 93, 94, 95, 96, 97] (fun vi L => ∃ (s : Nat) (Q0 : Option Addr) (q0 : Nat) (G0 : List Int × Nat), vi = [.slice Q0 G0.1.length q0, .int .i64 G0.2, .int .i64 s] ∧ L = [K.row (.slice Q0 G0.1.length q0) 3 1 G0.1.length (G0.1.flatMap K.eI), K.blk b6 99 [.int .i64 kind, .int .i64 base, .int .i64 most, .slice A hs.length c, .slice B rs.length d, .func (.func (110 + kind.toNat)) #[] #[]], K.blk b3 55 [.slice C l.length cc], K.blk b2 38 [.int .i64 kind, .int .i64 base, .int .i64 most, .slice A hs.length c, .slice B rs.length d]] ∧ G0 = tellF kind base hs l hs.length s ∧ s ≤ N) (fun vi => N - (intOf (K.nth vi 2)).toNat) ?_ ?_
    · exact ⟨0, none, 0, ([], hs.length + 1), rfl, rfl, rfl, Nat.zero_le _⟩
    intro vi vr L hJ
    obtain ⟨s, Q0, q0, G0, rfl, rfl, hG, hsn⟩ := hJ
    have hFl := tellF_len (kind := kind) (base := base) (hs := hs) (l := l) (n := hs.length) s
    rw [← hG] at hFl
    try dsimp only [setd, setn, ev, nth, over, cl, eI, eP, eT, setM, setF, List.map, List.append, List.drop, List.take]
    refine K.seq ?_
    refine K.region_lit ?_
    refine K.seq_pure (K.lss rfl rfl) rfl ?_
    refine Rv.zn ?_
    refine K.seq_nil ?_
    refine K.norm_then ?_
    refine K.seq ?_
    refine K.cond rfl (fun ht55 => ?_) (fun ht55 => ?_)
    · try replace ht55 := of_decide_eq_true ht55
      have hsN : s < N := by omega
      have hs8 : s < 256 := by omega
      refine K.skip ?_
      refine K.norm_then ?_
      refine K.seq ?_
      refine K.block ?_
      refine K.seq ?_
      refine K.region_lit ?_
      refine K.seq_pure (K.move) rfl ?_
      refine Rv.zn ?_
      refine K.seq_pure (K.assign) rfl ?_
      refine Rv.zn ?_
      refine K.seq_nil ?_
      refine K.norm_then ?_
      refine K.seq ?_
      refine K.seq ?_
      refine K.region_lit ?_
      refine K.seq_pure (K.move) rfl ?_
      refine Rv.zn ?_
      refine K.seq_pure (K.Pure.eq (K.conv_int ik_3 ik_126 rfl) (by rw [wrapU hs8])) rfl ?_
      try dsimp only [setd, setn, ev, nth, over, cl, eI, eP, eT, List.map, List.append, List.drop, List.take]
      refine K.seq_call (K.call_g cal_62 (fun F w hF hw => c76 hs8 w)) rfl ?_
      try dsimp only [setd, setn, ev, nth, over, cl, eI, eP, eT, List.map, List.append, List.drop, List.take]
      refine K.seq_pure (K.move) rfl ?_
      refine Rv.zn ?_
      refine K.seq_pure (K.gtr rfl rfl) rfl ?_
      refine Rv.zn ?_
      refine K.seq_pure (K.move) rfl ?_
      refine Rv.zn ?_
      refine K.split 62 rfl (fun hg62 => ?_) (fun hg62 => ?_)
      · try replace hg62 := of_decide_eq_true hg62
        refine K.seq_skip ?_ ?_
        · rfl
        try dsimp only [setd, setn, ev, nth, over, cl, eI, eP, eT, List.map, List.append, List.drop, List.take]
        refine K.seq_skip ?_ ?_
        · rfl
        try dsimp only [setd, setn, ev, nth, over, cl, eI, eP, eT, List.map, List.append, List.drop, List.take]
        refine K.seq_skip ?_ ?_
        · rfl
        try dsimp only [setd, setn, ev, nth, over, cl, eI, eP, eT, List.map, List.append, List.drop, List.take]
        refine K.seq_skip ?_ ?_
        · rfl
        try dsimp only [setd, setn, ev, nth, over, cl, eI, eP, eT, List.map, List.append, List.drop, List.take]
        refine K.seq_pure (K.pick_t rfl) rfl ?_
        refine Rv.zn ?_
        refine K.seq_nil ?_
        refine K.norm_then ?_
        refine K.cond_true rfl ?_
        refine K.exit ?_
        refine K.exit_then ?_
        refine K.exit_here ?_
        refine K.norm_then ?_
        refine K.region_lit ?_
        refine K.seq_pure (K.add_i64 rfl rfl (by omega)) rfl ?_
        refine Rv.zn ?_
        refine K.seq_pure (K.move) rfl ?_
        refine Rv.zn ?_
        refine K.seq_nil ?_
        exact K.round_endW (L'' := [K.row (.slice Q0 G0.1.length q0) 3 1 G0.1.length (G0.1.flatMap K.eI), K.blk b6 99 [.int .i64 kind, .int .i64 base, .int .i64 most, .slice A hs.length c, .slice B rs.length d, .func (.func (110 + kind.toNat)) #[] #[]], K.blk b3 55 [.slice C l.length cc], K.blk b2 38 [.int .i64 kind, .int .i64 base, .int .i64 most, .slice A hs.length c, .slice B rs.length d]]) [.slice Q0 G0.1.length q0, .int .i64 G0.2, .int .i64 ((s : Int) + 1)] ⟨s + 1, Q0, q0, G0, rfl, rfl, tellF_skip1 hG (by omega), by omega⟩ (by simp [K.nth, intOf]; omega) (by (repeat (first | exact List.Sublist.refl _ | apply List.Sublist.cons)); done) (by kernel_rfl)
      try replace hg62 := of_decide_eq_false hg62
      refine K.seq_pure (K.move) rfl ?_
      refine Rv.zn ?_
      refine K.seq_pure (K.move) rfl ?_
      refine Rv.zn ?_
      refine K.seq_call (K.callv_g (first := []) (cap := [.pointer (some ⟨b3, 0, none⟩), .pointer (some ⟨b6, 0, none⟩)]) rfl cal_75 (fun F w hF hw => c75 (s := s) (K.PtrL.now hw (hF _ (K.m2))) (K.PtrL.now hw (hF _ (K.m1))) (hS.pass hw) (hH.pass hw) g hpp (by omega) hs8)) rfl ?_
      try dsimp only [setd, setn, ev, nth, over, cl, eI, eP, eT, List.map, List.append, List.drop, List.take]
      first | refine K.seq_pure (K.not_d rfl) rfl ?_ | refine K.seq_pure (K.not_ rfl) rfl ?_
      try dsimp only [setd, setn, ev, nth, over, cl, eI, eP, eT, List.map, List.append, List.drop, List.take]
      refine K.seq_pure (K.pick_f rfl) rfl ?_
      refine Rv.zn ?_
      refine K.seq_nil ?_
      refine K.norm_then ?_
      refine K.cond rfl (fun ht67 => ?_) (fun ht67 => ?_)
      · try replace ht67 := of_decide_eq_true ht67
        refine K.exit ?_
        refine K.exit_then ?_
        refine K.exit_here ?_
        refine K.norm_then ?_
        refine K.region_lit ?_
        refine K.seq_pure (K.add_i64 rfl rfl (by omega)) rfl ?_
        refine Rv.zn ?_
        refine K.seq_pure (K.move) rfl ?_
        refine Rv.zn ?_
        refine K.seq_nil ?_
        exact K.round_endW (L'' := [K.row (.slice Q0 G0.1.length q0) 3 1 G0.1.length (G0.1.flatMap K.eI), K.blk b6 99 [.int .i64 kind, .int .i64 base, .int .i64 most, .slice A hs.length c, .slice B rs.length d, .func (.func (110 + kind.toNat)) #[] #[]], K.blk b3 55 [.slice C l.length cc], K.blk b2 38 [.int .i64 kind, .int .i64 base, .int .i64 most, .slice A hs.length c, .slice B rs.length d]]) [.slice Q0 G0.1.length q0, .int .i64 G0.2, .int .i64 ((s : Int) + 1)] ⟨s + 1, Q0, q0, G0, rfl, rfl, tellF_skip2 hG (by unfold apB; simpa using ht67), by omega⟩ (by simp [K.nth, intOf]; omega) (by (repeat (first | exact List.Sublist.refl _ | apply List.Sublist.cons)); done) (by kernel_rfl)
      try replace ht67 := of_decide_eq_false ht67
      have hap : apB kind base hs l s = true := by unfold apB; simpa using ht67
      refine K.skip ?_
      refine K.norm_then ?_
      refine K.seq ?_
      refine K.region_lit ?_
      refine K.nil_row (e := 3) (size := 1) ?_
      refine K.seq_pure (K.assign) rfl ?_
      refine Rv.zn ?_
      refine K.seq_nil ?_
      refine K.norm_then ?_
      refine K.seq ?_
      refine K.seq ?_
      refine K.region_lit ?_
      refine K.seq_pure (K.fieldAddr_lit fo_38_3 rfl) rfl ?_
      refine Rv.zn ?_
      refine K.seq_sil (K.load1_own one_28 rfl (K.m4) rfl) rfl ?_
      try dsimp only [setd, setn, ev, nth, over, cl, eI, eP, eT, List.map, List.append, List.drop, List.take]
      refine K.seq_pure (K.len_sl sl_28 rfl) rfl ?_
      refine Rv.zn ?_
      refine K.seq_pure (K.move) rfl ?_
      refine Rv.zn ?_
      refine K.seq_nil ?_
      refine K.norm_then ?_
      refine K.block ?_
      refine K.loopW [10, 71] [11, 72, 73, 74, 75, 76, 77, 78, 79, 80, 81, 82, 83] (fun vi L => ∃ (k : Nat) (Q1 : Option Addr) (n1 q1 : Nat) (ys : List Value), vi = [.slice Q1 n1 q1, .int .i64 (k : Int)] ∧ L = [K.row (.slice Q1 n1 q1) 3 1 n1 ys, K.row (.slice Q0 G0.1.length q0) 3 1 G0.1.length (G0.1.flatMap K.eI), K.blk b6 99 [.int .i64 kind, .int .i64 base, .int .i64 most, .slice A hs.length c, .slice B rs.length d, .func (.func (110 + kind.toNat)) #[] #[]], K.blk b3 55 [.slice C l.length cc], K.blk b2 38 [.int .i64 kind, .int .i64 base, .int .i64 most, .slice A hs.length c, .slice B rs.length d]] ∧ n1 = (selN (fun i => s.testBit i) k).length ∧ ys = (selN (fun i => s.testBit i) k).flatMap K.eI ∧ k ≤ hs.length) (fun vi => hs.length - (intOf (K.nth vi 1)).toNat) ?_ ?_
      · exact ⟨0, none, 0, 0, [], rfl, rfl, rfl, rfl, Nat.zero_le _⟩
      intro vi vr L hJ
      obtain ⟨k, Q1, n1, q1, ys, rfl, rfl, hn1, hys, hkn⟩ := hJ
      have hsl := selN_len (p := (fun i => s.testBit i)) (n := k)
      try dsimp only [setd, setn, ev, nth, over, cl, eI, eP, eT, setM, setF, List.map, List.append, List.drop, List.take]
      refine K.seq ?_
      refine K.region_lit ?_
      refine K.seq_pure (K.lss rfl rfl) rfl ?_
      refine Rv.zn ?_
      refine K.seq_nil ?_
      refine K.norm_then ?_
      refine K.seq ?_
      refine K.cond rfl (fun ht72 => ?_) (fun ht72 => ?_)
      · try replace ht72 := of_decide_eq_true ht72
        refine K.skip ?_
        refine K.norm_then ?_
        refine K.seq ?_
        refine K.block ?_
        refine K.seq ?_
        refine K.region_lit ?_
        refine K.seq_pure (K.move) rfl ?_
        refine Rv.zn ?_
        refine K.seq_pure (K.assign) rfl ?_
        refine Rv.zn ?_
        refine K.seq_nil ?_
        refine K.norm_then ?_
        refine K.seq ?_
        refine K.region_lit ?_
        refine K.seq_pure (K.move) rfl ?_
        refine Rv.zn ?_
        refine K.seq_pure (K.move) rfl ?_
        refine Rv.zn ?_
        refine K.seq_pure (K.shr_int rfl rfl (by omega)) rfl ?_
        refine Rv.zn ?_
        refine K.seq_pure (K.Pure.eq (K.and_int rfl rfl) (by rw [bit_val hs8 (by omega)])) rfl ?_
        refine Rv.zn ?_
        refine K.seq_pure (K.eql rfl rfl) rfl ?_
        refine Rv.zn ?_
        refine K.seq_nil ?_
        refine K.norm_then ?_
        refine K.cond rfl (fun ht78 => ?_) (fun ht78 => ?_)
        · try replace ht78 := of_decide_eq_true ht78
          have hp : (fun i => s.testBit i) k = true := by
            show s.testBit k = true
            cases hb : s.testBit k with
            | true => rfl
            | false => rw [hb] at ht78; cases ht78
          refine K.region_lit ?_
          refine K.seq_pure (K.move) rfl ?_
          refine Rv.zn ?_
          refine K.seq_pure (K.move) rfl ?_
          refine Rv.zn ?_
          refine K.seq_new (K.buildSlice (bs1 _)) rfl ?_
          intro b81
          try dsimp only [setd, setn, ev, nth, over, cl, eI, eP, eT, List.map, List.append, List.drop, List.take]
          refine K.seq_upd (K.append el_28 rfl rfl (K.PtrL.own' (K.m0)) rfl rfl (by decide) (by omega) (by omega) (fun _ _ => K.rp1)) rfl ?_
          rintro ⟨g82, c82⟩ _
          try dsimp only [setd, setn, ev, nth, over, cl, eI, eP, eT, List.map, List.append, List.drop, List.take]
          refine K.seq_pure (K.assign) rfl ?_
          refine Rv.zn ?_
          refine K.seq_nil ?_
          refine K.norm_block ?_
          refine K.norm_then ?_
          refine K.region_lit ?_
          refine K.seq_pure (K.add_i64 rfl rfl (by omega)) rfl ?_
          refine Rv.zn ?_
          refine K.seq_pure (K.move) rfl ?_
          refine Rv.zn ?_
          refine K.seq_nil ?_
          exact K.round_endW [.slice (some ⟨g82, 0, none⟩) (n1 + 1) c82, .int .i64 ((k : Int) + 1)] ⟨k + 1, _, _, _, _, rfl, rfl, by rw [selN_t (p := (fun i => s.testBit i)) (n := k) hp, List.length_append, ← hn1]; rfl, by rw [selN_t (p := (fun i => s.testBit i)) (n := k) hp, List.flatMap_append, ← hys], by omega⟩ (by simp [K.nth, intOf]; omega) (by repeat (first | exact List.Sublist.refl _ | apply List.Sublist.cons)) (by kernel_rfl)
        try replace ht78 := of_decide_eq_false ht78
        have hp : (fun i => s.testBit i) k = false := by
          show s.testBit k = false
          cases hb : s.testBit k with
          | false => rfl
          | true => rw [hb] at ht78; exact absurd rfl ht78
        refine K.skip ?_
        refine K.norm_block ?_
        refine K.norm_then ?_
        refine K.region_lit ?_
        refine K.seq_pure (K.add_i64 rfl rfl (by omega)) rfl ?_
        refine Rv.zn ?_
        refine K.seq_pure (K.move) rfl ?_
        refine Rv.zn ?_
        refine K.seq_nil ?_
        exact K.round_endW [.slice Q1 n1 q1, .int .i64 ((k : Int) + 1)] ⟨k + 1, _, _, _, _, rfl, rfl, by rw [selN_f (p := (fun i => s.testBit i)) (n := k) hp, ← hn1], by rw [selN_f (p := (fun i => s.testBit i)) (n := k) hp, ← hys], by omega⟩ (by simp [K.nth, intOf]; omega) (by repeat (first | exact List.Sublist.refl _ | apply List.Sublist.cons)) (by kernel_rfl)
      try replace ht72 := of_decide_eq_false ht72
      refine K.exit ?_
      refine K.exit_then ?_
      refine K.exit_then ?_
      refine K.exit_here ?_
      refine K.norm_then ?_
      refine K.seq ?_
      have hkk : k = hs.length := by omega
      subst hkk
      subst hn1
      subst hys
      refine K.use_row (List.Mem.head _) (fun hQ1 => ?_)
      refine K.use_row (List.Mem.tail _ (List.Mem.head _)) (fun hQ0 => ?_)
      refine K.region_lit ?_
      refine K.seq_pure (K.move) rfl ?_
      refine Rv.zn ?_
      refine K.seq_pure (K.len_sl sl_28 rfl) rfl ?_
      refine Rv.zn ?_
      refine K.seq_pure (K.move) rfl ?_
      refine Rv.zn ?_
      refine K.seq_pure (K.lss rfl rfl) rfl ?_
      refine Rv.zn ?_
      refine K.seq_pure (K.move) rfl ?_
      refine Rv.zn ?_
      refine K.split 88 rfl (fun hg88 => ?_) (fun hg88 => ?_)
      · try replace hg88 := of_decide_eq_true hg88
        refine K.seq_skip ?_ ?_
        · rfl
        try dsimp only [setd, setn, ev, nth, over, cl, eI, eP, eT, List.map, List.append, List.drop, List.take]
        refine K.seq_skip ?_ ?_
        · rfl
        try dsimp only [setd, setn, ev, nth, over, cl, eI, eP, eT, List.map, List.append, List.drop, List.take]
        refine K.seq_skip ?_ ?_
        · rfl
        try dsimp only [setd, setn, ev, nth, over, cl, eI, eP, eT, List.map, List.append, List.drop, List.take]
        refine K.seq_skip ?_ ?_
        · rfl
        try dsimp only [setd, setn, ev, nth, over, cl, eI, eP, eT, List.map, List.append, List.drop, List.take]
        refine K.seq_pure (K.pick_t rfl) rfl ?_
        refine Rv.zn ?_
        refine K.seq_nil ?_
        refine K.norm_then ?_
        refine K.cond_true rfl ?_
        refine K.region_lit ?_
        refine K.seq_pure (K.move) rfl ?_
        refine Rv.zn ?_
        refine K.seq_pure (K.move) rfl ?_
        refine Rv.zn ?_
        refine K.seq_pure (K.len_sl sl_28 rfl) rfl ?_
        refine Rv.zn ?_
        refine K.seq_pure (K.assign) rfl ?_
        refine Rv.zn ?_
        refine K.seq_pure (K.assign) rfl ?_
        refine Rv.zn ?_
        refine K.seq_nil ?_
        refine K.norm_block ?_
        refine K.norm_then ?_
        refine K.region_lit ?_
        refine K.seq_pure (K.add_i64 rfl rfl (by omega)) rfl ?_
        refine Rv.zn ?_
        refine K.seq_pure (K.move) rfl ?_
        refine Rv.zn ?_
        refine K.seq_nil ?_
        exact K.round_endW (L'' := [K.row (.slice Q1 (ptsS hs.length s).length q1) 3 1 (ptsS hs.length s).length ((ptsS hs.length s).flatMap K.eI), K.blk b6 99 [.int .i64 kind, .int .i64 base, .int .i64 most, .slice A hs.length c, .slice B rs.length d, .func (.func (110 + kind.toNat)) #[] #[]], K.blk b3 55 [.slice C l.length cc], K.blk b2 38 [.int .i64 kind, .int .i64 base, .int .i64 most, .slice A hs.length c, .slice B rs.length d]]) [.slice Q1 (ptsS hs.length s).length q1, .int .i64 (ptsS hs.length s).length, .int .i64 ((s : Int) + 1)] ⟨s + 1, Q1, q1, ((ptsS hs.length s), (ptsS hs.length s).length), rfl, rfl, tellF_t hG (by omega) hap (.inl (by unfold ptsS; omega)), by omega⟩ (by simp [K.nth, intOf]; omega) (List.Sublist.cons_cons _ (List.Sublist.cons _ (List.Sublist.refl _))) (by kernel_rfl)
      try replace hg88 := of_decide_eq_false hg88
      refine K.seq_pure (K.move) rfl ?_
      refine Rv.zn ?_
      refine K.seq_pure (K.move) rfl ?_
      refine Rv.zn ?_
      refine K.seq_call (K.call_g cal_63 (fun F w hF hw => c77 (xs := (ptsS hs.length s)) (ys := G0.1) (K.Rd.own hw (hF _ (K.m0)) hQ1 (fun _ => rfl) (by decide)) (K.Rd.own hw (hF _ (K.m1)) hQ0 (fun _ => rfl) (by decide)) (by unfold ptsS; omega) (by omega))) rfl ?_
      try dsimp only [setd, setn, ev, nth, over, cl, eI, eP, eT, List.map, List.append, List.drop, List.take]
      refine K.seq_pure (K.lss rfl rfl) rfl ?_
      refine Rv.zn ?_
      refine K.seq_pure (K.pick_f rfl) rfl ?_
      refine Rv.zn ?_
      refine K.seq_nil ?_
      refine K.norm_then ?_
      refine K.cond rfl (fun ht93 => ?_) (fun ht93 => ?_)
      · try replace ht93 := of_decide_eq_true ht93
        refine K.region_lit ?_
        refine K.seq_pure (K.move) rfl ?_
        refine Rv.zn ?_
        refine K.seq_pure (K.move) rfl ?_
        refine Rv.zn ?_
        refine K.seq_pure (K.len_sl sl_28 rfl) rfl ?_
        refine Rv.zn ?_
        refine K.seq_pure (K.assign) rfl ?_
        refine Rv.zn ?_
        refine K.seq_pure (K.assign) rfl ?_
        refine Rv.zn ?_
        refine K.seq_nil ?_
        refine K.norm_block ?_
        refine K.norm_then ?_
        refine K.region_lit ?_
        refine K.seq_pure (K.add_i64 rfl rfl (by omega)) rfl ?_
        refine Rv.zn ?_
        refine K.seq_pure (K.move) rfl ?_
        refine Rv.zn ?_
        refine K.seq_nil ?_
        exact K.round_endW (L'' := [K.row (.slice Q1 (ptsS hs.length s).length q1) 3 1 (ptsS hs.length s).length ((ptsS hs.length s).flatMap K.eI), K.blk b6 99 [.int .i64 kind, .int .i64 base, .int .i64 most, .slice A hs.length c, .slice B rs.length d, .func (.func (110 + kind.toNat)) #[] #[]], K.blk b3 55 [.slice C l.length cc], K.blk b2 38 [.int .i64 kind, .int .i64 base, .int .i64 most, .slice A hs.length c, .slice B rs.length d]]) [.slice Q1 (ptsS hs.length s).length q1, .int .i64 (ptsS hs.length s).length, .int .i64 ((s : Int) + 1)] ⟨s + 1, Q1, q1, ((ptsS hs.length s), (ptsS hs.length s).length), rfl, rfl, tellF_t hG (by omega) hap (.inr ht93), by omega⟩ (by simp [K.nth, intOf]; omega) (List.Sublist.cons_cons _ (List.Sublist.cons _ (List.Sublist.refl _))) (by kernel_rfl)
      try replace ht93 := of_decide_eq_false ht93
      refine K.skip ?_
      refine K.norm_block ?_
      refine K.norm_then ?_
      refine K.region_lit ?_
      refine K.seq_pure (K.add_i64 rfl rfl (by omega)) rfl ?_
      refine Rv.zn ?_
      refine K.seq_pure (K.move) rfl ?_
      refine Rv.zn ?_
      refine K.seq_nil ?_
      exact K.round_endW (L'' := [K.row (.slice Q0 G0.1.length q0) 3 1 G0.1.length (G0.1.flatMap K.eI), K.blk b6 99 [.int .i64 kind, .int .i64 base, .int .i64 most, .slice A hs.length c, .slice B rs.length d, .func (.func (110 + kind.toNat)) #[] #[]], K.blk b3 55 [.slice C l.length cc], K.blk b2 38 [.int .i64 kind, .int .i64 base, .int .i64 most, .slice A hs.length c, .slice B rs.length d]]) [.slice Q0 G0.1.length q0, .int .i64 G0.2, .int .i64 ((s : Int) + 1)] ⟨s + 1, Q0, q0, G0, rfl, rfl, tellF_f hG (by omega) hap (fun h => h.elim (fun h => by unfold ptsS at h; omega) ht93), by omega⟩ (by simp [K.nth, intOf]; omega) (by (repeat (first | exact List.Sublist.refl _ | apply List.Sublist.cons)); done) (by kernel_rfl)
    try replace ht55 := of_decide_eq_false ht55
    refine K.exit ?_
    refine K.exit_then ?_
    refine K.exit_then ?_
    refine K.exit_here ?_
    refine K.norm_then ?_
    refine K.seq ?_
    refine K.region_lit ?_
    refine K.seq_pure (K.move) rfl ?_
    refine Rv.zn ?_
    refine K.seq_pure (K.assign) rfl ?_
    refine Rv.zn ?_
    refine K.seq_pure (K.assign) rfl ?_
    refine Rv.zn ?_
    refine K.seq_nil ?_
    refine K.norm_then ?_
    refine K.ret ?_
    refine K.end_ret (fun w _ => K.res_tmp2 rfl w) ?_
    have hsn2 : s = N := by omega
    have hte := te_ok hc0 (by omega) hsc hap1
    exact K.rets_se (xs := tellR kind base most hs rs l) (List.Mem.head _) (by unfold tellR; rw [if_pos hte, hG, hsn2, hN]) (by unfold tellR; rw [if_pos hte, hG, hsn2, hN]) hte.symm rfl
  try replace hg20 := of_decide_eq_false hg20
  skip
  refine K.seq_skip ?_ ?_
  · rfl
  try dsimp only [setd, setn, ev, nth, over, cl, eI, eP, eT, List.map, List.append, List.drop, List.take]
  refine K.seq_skip ?_ ?_
  · rfl
  try dsimp only [setd, setn, ev, nth, over, cl, eI, eP, eT, List.map, List.append, List.drop, List.take]
  refine K.seq_skip ?_ ?_
  · rfl
  try dsimp only [setd, setn, ev, nth, over, cl, eI, eP, eT, List.map, List.append, List.drop, List.take]
  refine K.seq_pure (K.pick_f rfl) rfl ?_
  refine Rv.zn ?_
  refine K.seq_nil ?_
  refine K.norm_then ?_
  refine K.cond_false rfl ?_
  refine K.skip ?_
  refine K.norm_then ?_
  refine K.seq ?_
  refine K.seq ?_
  refine K.region_lit ?_
  refine K.seq_pure (K.move) rfl ?_
  refine Rv.zn ?_
  refine K.seq_pure (K.neq rfl rfl) rfl ?_
  refine Rv.zn ?_
  refine K.seq_nil ?_
  refine K.norm_then ?_
  refine K.cond rfl (fun ht26 => ?_) (fun ht26 => ?_)
  · try replace ht26 := of_decide_eq_true ht26
    refine K.seq ?_
    refine K.region_lit ?_
    refine K.seq_pure (K.move) rfl ?_
    refine Rv.zn ?_
    refine K.seq_pure (K.assign) rfl ?_
    refine Rv.zn ?_
    refine K.seq_pure (K.assign) rfl ?_
    refine Rv.zn ?_
    refine K.seq_nil ?_
    refine K.norm_then ?_
    refine K.ret ?_
    refine K.ret_then ?_
    refine K.end_ret (fun w _ => K.res_tmp2 rfl w) ?_
    exact K.rets_se0 (tr_bad (by rw [te_chk ht26]; exact ht26)) (te_chk ht26).symm rfl
  try replace ht26 := of_decide_eq_false ht26
  exact absurd hg20 ht26

end Go.Proofs.YtekkpcpbnonkaaaGreatDoor.Sc
end
section
set_option linter.unusedSimpArgs false
set_option linter.unusedVariables false
namespace Go.Proofs.YtekkpcpbnonkaaaGreatDoor.Sc
open Go.RowKit Go
open Go.K (setd setn ev nth over cl eI eP eT setM setF)
attribute [local irreducible] K.blk K.row

set_option maxRecDepth 100000 in
theorem e27 {kind base most : Int} {A B : Option Addr} {c d : Nat} {hs : List Int} {rs : List (Int × Int)} {limit : Int} {w : World} (hH : K.Rd w A 1 K.eI hs) (hR : K.Rd w B 2 K.eP rs) (hn : hs.length ≤ 4611686018427387904) (hm : rs.length ≤ 4611686018427387904) (he : (chk kind base most hs rs).2.2 ≠ 0) :
    Calls Tryz.prog 22 [.agg #[.int .i64 kind, .int .i64 base, .int .i64 most, .slice A hs.length c, .slice B rs.length d], .int .i64 limit].toArray w (K.Gives (.tuple #[.agg #[.int .i64 0, .int .i64 0], .int .i64 (chk kind base most hs rs).2.2]) w) := by
  refine K.enter (args := [.agg #[.int .i64 kind, .int .i64 base, .int .i64 most, .slice A hs.length c, .slice B rs.length d], .int .i64 limit]) Tryz.func22 rfl (n := 56) rfl ?_
  simp only [List.replicate, List.cons_append, List.nil_append]
  refine K.seq ?_
  refine K.region_lit ?_
  refine K.seq_new (K.box) rfl ?_
  intro b2
  try dsimp only [setd, setn, ev, nth, over, cl, eI, eP, eT, List.map, List.append, List.drop, List.take]
  refine K.seq_new (K.box) rfl ?_
  intro b3
  try dsimp only [setd, setn, ev, nth, over, cl, eI, eP, eT, List.map, List.append, List.drop, List.take]
  refine K.seq_new (K.alloc zr_42) rfl ?_
  intro b4
  try dsimp only [setd, setn, ev, nth, over, cl, eI, eP, eT, List.map, List.append, List.drop, List.take]
  refine K.seq_pure (K.assign) rfl ?_
  refine Rv.zn ?_
  refine K.seq_nil ?_
  refine K.norm_then ?_
  refine K.scope ?_
  refine K.seq ?_
  refine K.region_lit ?_
  refine K.seq_sil (K.loadA_own ag_38 rfl (K.m2) rfl) rfl ?_
  try dsimp only [setd, setn, ev, nth, over, cl, eI, eP, eT, List.map, List.append, List.drop, List.take]
  refine K.seq_call (K.call_g cal_44 (fun F w hF hw => e58 (l := []) (hH.pass hw) (hR.pass hw) hn hm he)) rfl ?_
  try dsimp only [setd, setn, ev, nth, over, cl, eI, eP, eT, List.map, List.append, List.drop, List.take]
  refine K.seq_pure (K.move) rfl ?_
  refine Rv.zn ?_
  refine K.seq_pure (K.extract rfl rfl) rfl ?_
  refine Rv.zn ?_
  refine K.seq_pure (K.extract rfl rfl) rfl ?_
  refine Rv.zn ?_
  refine K.seq_new (K.alloc zr_99) rfl ?_
  intro b6
  try dsimp only [setd, setn, ev, nth, over, cl, eI, eP, eT, List.map, List.append, List.drop, List.take]
  refine K.seq_st (K.store_all sz_99 rfl rfl rfl rfl (K.rp0)) rfl ?_
  try dsimp only [setd, setn, ev, nth, over, cl, eI, eP, eT, List.map, List.append, List.drop, List.take]
  refine K.seq_pure (K.assign) rfl ?_
  refine Rv.zn ?_
  refine K.seq_nil ?_
  refine K.norm_then ?_
  refine K.seq ?_
  refine K.block ?_
  refine K.seq ?_
  refine K.region_lit ?_
  refine K.seq_pure (K.move) rfl ?_
  refine Rv.zn ?_
  refine K.seq_pure (K.neq rfl rfl) rfl ?_
  refine Rv.zn ?_
  refine K.seq_pure (K.assign) rfl ?_
  refine Rv.zn ?_
  refine K.seq_nil ?_
  refine K.norm_then ?_
  refine K.cond rfl (fun ht17 => ?_) (fun ht17 => ?_)
  · try replace ht17 := of_decide_eq_true ht17
    refine K.seq ?_
    refine K.region_lit ?_
    refine K.seq_sil (K.loadA_own ag_42 rfl (K.m1) rfl) rfl ?_
    try dsimp only [setd, setn, ev, nth, over, cl, eI, eP, eT, List.map, List.append, List.drop, List.take]
    refine K.seq_pure (K.move) rfl ?_
    refine Rv.zn ?_
    refine K.seq_st (K.store_all sz_42 rfl rfl rfl rfl (K.rp1)) rfl ?_
    try dsimp only [setd, setn, ev, nth, over, cl, eI, eP, eT, List.map, List.append, List.drop, List.take]
    refine K.seq_pure (K.assign) rfl ?_
    refine Rv.zn ?_
    refine K.seq_nil ?_
    refine K.norm_then ?_
    refine K.ret ?_
    refine K.ret_block ?_
    refine K.ret_then ?_
    refine R.ng_ret ?_
    refine K.end_ret (fun w hw => K.res_ct rfl rfl (K.run_cellA ag_42 rfl (K.m1) rfl w hw)) ?_
    exact K.gives rfl
  try replace ht17 := of_decide_eq_false ht17
  exact absurd he ht17

set_option maxRecDepth 100000 in
theorem g27 {kind base most : Int} {A B : Option Addr} {c d : Nat} {hs : List Int} {rs : List (Int × Int)} {limit : Int} {w : World} (hH : K.Rd w A 1 K.eI hs) (hR : K.Rd w B 2 K.eP rs) (g : Good kind base most hs rs) :
    Calls Tryz.prog 22 [.agg #[.int .i64 kind, .int .i64 base, .int .i64 most, .slice A hs.length c, .slice B rs.length d], .int .i64 limit].toArray w (K.Gives (if 0 ≤ limit ∧ limit ≤ 1000000 then (if lastG (okG kind base most hs rs limit) SB = (0, 0) then .tuple #[.agg #[.int .i64 0, .int .i64 0], .int .i64 9] else .tuple #[.agg #[.int .i64 (lastG (okG kind base most hs rs limit) SB).1, .int .i64 (lastG (okG kind base most hs rs limit) SB).2], .int .i64 0]) else .tuple #[.agg #[.int .i64 0, .int .i64 0], .int .i64 7]) w) := by
  have g1 := g.k
  have g2 := g.n
  have g3 := g.r
  have g4 := g.b
  have g5 := g.m
  refine R.enter (args := [.agg #[.int .i64 kind, .int .i64 base, .int .i64 most, .slice A hs.length c, .slice B rs.length d], .int .i64 limit]) Tryz.func22 rfl (m := 56) rfl ?_
  simp only [List.replicate, List.cons_append, List.nil_append]
  refine R.seq ?_
  refine R.region_lit rfl ?_
  refine K.seq_new (K.box) rfl ?_
  intro b2
  try dsimp only [setd, setn, ev, nth, over, cl, eI, eP, eT, List.map, List.append, List.drop, List.take]
  refine K.seq_new (K.box) rfl ?_
  intro b3
  try dsimp only [setd, setn, ev, nth, over, cl, eI, eP, eT, List.map, List.append, List.drop, List.take]
  refine K.seq_new (K.alloc zr_42) rfl ?_
  intro b4
  try dsimp only [setd, setn, ev, nth, over, cl, eI, eP, eT, List.map, List.append, List.drop, List.take]
  refine K.seq_pure (K.assign) rfl ?_
  refine Rv.zn ?_
  refine K.seq_nil ?_
  refine R.out ?_
  refine R.norm_then ?_
  refine R.scope ?_
  refine R.seq ?_
  refine R.region_lit rfl ?_
  refine K.seq_sil (K.loadA_own ag_38 rfl (K.m2) rfl) rfl ?_
  try dsimp only [setd, setn, ev, nth, over, cl, eI, eP, eT, List.map, List.append, List.drop, List.take]
  refine K.seq_call (K.call_g cal_44 (fun F w hF hw => c58 (l := []) (hH.pass hw) (hR.pass hw) g K.Rd.nil (by simp))) rfl ?_
  try dsimp only [setd, setn, ev, nth, over, cl, eI, eP, eT, List.map, List.append, List.drop, List.take]
  refine K.seq_pure (K.move) rfl ?_
  refine Rv.zn ?_
  refine K.seq_pure (K.extract rfl rfl) rfl ?_
  refine Rv.zn ?_
  refine K.seq_pure (K.extract rfl rfl) rfl ?_
  refine Rv.zn ?_
  refine K.seq_new (K.alloc zr_99) rfl ?_
  intro b6
  try dsimp only [setd, setn, ev, nth, over, cl, eI, eP, eT, List.map, List.append, List.drop, List.take]
  refine K.seq_st (K.store_all sz_99 rfl rfl rfl rfl (K.rp0)) rfl ?_
  try dsimp only [setd, setn, ev, nth, over, cl, eI, eP, eT, List.map, List.append, List.drop, List.take]
  refine K.seq_pure (K.assign) rfl ?_
  refine Rv.zn ?_
  refine K.seq_nil ?_
  refine R.out ?_
  refine R.norm_then ?_
  refine R.seq ?_
  refine R.block ?_
  refine R.seq ?_
  refine R.region_lit rfl ?_
  refine K.seq_pure (K.move) rfl ?_
  refine Rv.zn ?_
  refine K.seq_pure (K.neq rfl rfl) rfl ?_
  refine Rv.zn ?_
  refine K.seq_pure (K.assign) rfl ?_
  refine Rv.zn ?_
  refine K.seq_nil ?_
  refine R.out ?_
  refine R.norm_then ?_
  refine R.cond rfl (fun ht17 => ?_) (fun ht17 => ?_)
  · try replace ht17 := of_decide_eq_true ht17
    exact absurd rfl ht17
  try replace ht17 := of_decide_eq_false ht17
  refine R.seq ?_
  refine R.region_lit rfl ?_
  refine K.seq_sil (K.load1_own one_3 rfl (K.m2) rfl) rfl ?_
  try dsimp only [setd, setn, ev, nth, over, cl, eI, eP, eT, List.map, List.append, List.drop, List.take]
  refine K.seq_new (K.buildSlice (bs1 _)) rfl ?_
  intro b24
  try dsimp only [setd, setn, ev, nth, over, cl, eI, eP, eT, List.map, List.append, List.drop, List.take]
  refine K.seq_call (K.call_g cal_53 (fun F w hF hw => c52_1 hw (hF _ (K.m0)))) rfl ?_
  try dsimp only [setd, setn, ev, nth, over, cl, eI, eP, eT, List.map, List.append, List.drop, List.take]
  refine K.seq_pure (K.assign) rfl ?_
  refine Rv.zn ?_
  refine K.seq_nil ?_
  refine R.out ?_
  refine R.norm_then ?_
  refine R.cond rfl (fun ht22 => ?_) (fun ht22 => ?_)
  · try replace ht22 := of_decide_eq_true ht22
    refine R.seq ?_
    refine R.region_lit rfl ?_
    refine K.seq_sil (K.loadA_own ag_42 rfl (K.m2) rfl) rfl ?_
    try dsimp only [setd, setn, ev, nth, over, cl, eI, eP, eT, List.map, List.append, List.drop, List.take]
    refine K.seq_st (K.store_all sz_42 rfl rfl rfl rfl (K.rp2)) rfl ?_
    try dsimp only [setd, setn, ev, nth, over, cl, eI, eP, eT, List.map, List.append, List.drop, List.take]
    refine K.seq_pure (K.assign) rfl ?_
    refine Rv.zn ?_
    refine K.seq_nil ?_
    refine R.out ?_
    refine R.norm_then ?_
    refine R.ret ?_
    refine R.ret_block ?_
    refine R.ret_then ?_
    refine R.ng_ret ?_
    refine R.end_ret (fun w hw => K.res_ct rfl rfl (K.run_cellA ag_42 rfl (K.m2) rfl w hw)) ?_
    exact K.gives (by rw [if_neg (by omega)]; rfl)
  try replace ht22 := of_decide_eq_false ht22
  refine R.skip ?_
  refine R.norm_block ?_
  refine R.norm_then ?_
  refine R.seq ?_
  refine R.label ?_
  refine R.norm_then ?_
  refine R.seq ?_
  refine R.seq ?_
  refine R.region_lit rfl ?_
  refine K.seq_call (K.call_g cal_54 (fun F w hF hw => c67 w)) rfl ?_
  try dsimp only [setd, setn, ev, nth, over, cl, eI, eP, eT, List.map, List.append, List.drop, List.take]
  refine K.seq_nil ?_
  refine R.out ?_
  refine R.norm_then ?_
  refine R.block ?_
  refine R.rangeF (gf := 85) (enc := (fun x : Int × Int => Value.agg #[.int .i64 x.1, .int .i64 x.2])) (XS := SB) rfl cal_85 c90 (fun k L => ∃ best : Int × Int, L = [K.blk b24 3 [.int .i64 limit], K.blk b6 99 [.int .i64 kind, .int .i64 base, .int .i64 most, .slice A hs.length c, .slice B rs.length d, .func (.func (110 + kind.toNat)) #[] #[]], K.blk b4 42 [.int .i64 best.1, .int .i64 best.2], K.blk b3 3 [.int .i64 limit], K.blk b2 38 [.int .i64 kind, .int .i64 base, .int .i64 most, .slice A hs.length c, .slice B rs.length d]] ∧ best = lastG (okG kind base most hs rs limit) (SB.take k)) (fun cX L => cX = .exit 1 ∧ ∃ best : Int × Int, L = [K.blk b24 3 [.int .i64 limit], K.blk b6 99 [.int .i64 kind, .int .i64 base, .int .i64 most, .slice A hs.length c, .slice B rs.length d, .func (.func (110 + kind.toNat)) #[] #[]], K.blk b4 42 [.int .i64 best.1, .int .i64 best.2], K.blk b3 3 [.int .i64 limit], K.blk b2 38 [.int .i64 kind, .int .i64 base, .int .i64 most, .slice A hs.length c, .slice B rs.length d]] ∧ best = lastG (okG kind base most hs rs limit) SB) ?_ ?_ ?_ ?_
  · exact ⟨(0, 0), rfl, rfl⟩
  · intro k x L lr E hx hJ
    obtain ⟨best, rfl, hbest⟩ := hJ
    have hp := sb_parts hx
    try dsimp only [List.cons_append, List.nil_append]
    try dsimp only [setd, setn, ev, nth, over, cl, eI, eP, eT, setM, setF, List.map, List.append, List.drop, List.take]
    refine R.region_lit rfl ?_
    refine K.seq_new (K.alloc zr_42) rfl ?_
    intro b7
    try dsimp only [setd, setn, ev, nth, over, cl, eI, eP, eT, List.map, List.append, List.drop, List.take]
    refine K.seq_st (K.store_all sz_42 rfl rfl rfl rfl (K.rp0)) rfl ?_
    try dsimp only [setd, setn, ev, nth, over, cl, eI, eP, eT, List.map, List.append, List.drop, List.take]
    refine K.seq_nil ?_
    refine R.out ?_
    refine R.norm_then ?_
    refine R.body' rfl (fun E => ?_)
    dsimp only [List.dropLast, List.cons_append, List.nil_append]
    try dsimp only [setd, setn, ev, nth, over, cl, eI, eP, eT, List.map, List.append, List.drop, List.take]
    refine R.block ?_
    refine R.seq ?_
    refine R.region_lit rfl ?_
    refine K.seq_sil (K.loadA_own ag_99 rfl (K.m2) rfl) rfl ?_
    try dsimp only [setd, setn, ev, nth, over, cl, eI, eP, eT, List.map, List.append, List.drop, List.take]
    refine K.seq_sil (K.loadA_own ag_42 rfl (K.m0) rfl) rfl ?_
    try dsimp only [setd, setn, ev, nth, over, cl, eI, eP, eT, List.map, List.append, List.drop, List.take]
    refine K.seq_call (K.call_g cal_45 (fun F w hF hw => c59 (u := x.1) (v := x.2) (hH.pass hw) g hp)) rfl ?_
    try dsimp only [setd, setn, ev, nth, over, cl, eI, eP, eT, List.map, List.append, List.drop, List.take]
    refine K.seq_pure (K.move) rfl ?_
    refine Rv.zn ?_
    refine K.seq_pure (K.extract rfl rfl) rfl ?_
    refine Rv.zn ?_
    refine K.seq_pure (K.extract rfl rfl) rfl ?_
    refine Rv.zn ?_
    refine K.seq_new (K.alloc zr_103) rfl ?_
    intro b8
    try dsimp only [setd, setn, ev, nth, over, cl, eI, eP, eT, List.map, List.append, List.drop, List.take]
    refine K.seq_st (K.store_all sz_103 rfl rfl rfl rfl (K.rp0)) rfl ?_
    try dsimp only [setd, setn, ev, nth, over, cl, eI, eP, eT, List.map, List.append, List.drop, List.take]
    refine K.seq_pure (K.assign) rfl ?_
    refine Rv.zn ?_
    refine K.seq_nil ?_
    refine R.out ?_
    refine R.norm_then ?_
    refine R.seq ?_
    refine R.seq ?_
    refine R.region_lit rfl ?_
    refine K.seq_pure (K.move) rfl ?_
    refine Rv.zn ?_
    first | refine K.seq_pure (K.not_d rfl) rfl ?_ | refine K.seq_pure (K.not_ rfl) rfl ?_
    try dsimp only [setd, setn, ev, nth, over, cl, eI, eP, eT, List.map, List.append, List.drop, List.take]
    refine K.seq_nil ?_
    refine R.out ?_
    refine R.norm_then ?_
    refine R.cond rfl (fun ht36 => ?_) (fun ht36 => ?_)
    · try replace ht36 := of_decide_eq_true ht36
      have hfit : fitP kind base most hs x = false := by unfold fitP; simpa using ht36
      refine R.exit ?_
      refine R.exit_then ?_
      refine R.exit_out rfl ?_
      exact R.rp_exit (L := [K.blk b24 3 [.int .i64 limit], K.blk b6 99 [.int .i64 kind, .int .i64 base, .int .i64 most, .slice A hs.length c, .slice B rs.length d, .func (.func (110 + kind.toNat)) #[] #[]], K.blk b4 42 [.int .i64 best.1, .int .i64 best.2], K.blk b3 3 [.int .i64 limit], K.blk b2 38 [.int .i64 kind, .int .i64 base, .int .i64 most, .slice A hs.length c, .slice B rs.length d]]) ⟨rfl, best, rfl, by rw [hbest, lastG_cut g hx hfit]⟩ (by repeat (first | exact List.Sublist.refl _ | apply List.Sublist.cons))
    try replace ht36 := of_decide_eq_false ht36
    have hfit : fitP kind base most hs x = true := by unfold fitP; simpa using ht36
    refine R.skip ?_
    refine R.norm_then ?_
    refine R.seq ?_
    refine R.seq ?_
    refine R.region_lit rfl ?_
    refine K.seq_pure (K.fieldAddr_lit fo_38_4 rfl) rfl ?_
    refine Rv.zn ?_
    refine K.seq_sil (K.load1_own one_36 rfl (K.m6) rfl) rfl ?_
    try dsimp only [setd, setn, ev, nth, over, cl, eI, eP, eT, List.map, List.append, List.drop, List.take]
    refine K.seq_pure (K.len_sl sl_36 rfl) rfl ?_
    refine Rv.zn ?_
    refine K.seq_pure (K.move) rfl ?_
    refine Rv.zn ?_
    refine K.seq_nil ?_
    refine R.out ?_
    refine R.norm_then ?_
    refine R.block ?_
    refine R.loopW [40] [11, 41, 42, 43, 44, 45, 46, 47, 48, 49, 50, 51] (fun vi L => ∃ j : Nat, vi = [.int .i64 (j : Int)] ∧ L = [K.blk b8 103 (a8 (cuts kind base x.1 x.2 hs)), K.blk b7 42 [.int .i64 x.1, .int .i64 x.2], K.blk b24 3 [.int .i64 limit], K.blk b6 99 [.int .i64 kind, .int .i64 base, .int .i64 most, .slice A hs.length c, .slice B rs.length d, .func (.func (110 + kind.toNat)) #[] #[]], K.blk b4 42 [.int .i64 best.1, .int .i64 best.2], K.blk b3 3 [.int .i64 limit], K.blk b2 38 [.int .i64 kind, .int .i64 base, .int .i64 most, .slice A hs.length c, .slice B rs.length d], E] ∧ j ≤ rs.length ∧ ∀ i, i < j → offP kind base hs x (rs.getD i default) ≤ limit) (fun vi => rs.length - (intOf (K.nth vi 0)).toNat) ?_ ?_
    · exact ⟨0, rfl, rfl, Nat.zero_le _, fun i hi => absurd hi (Nat.not_lt_zero i)⟩
    intro vi vr L hJ
    obtain ⟨j, rfl, rfl, hjn, hall⟩ := hJ
    try dsimp only [setd, setn, ev, nth, over, cl, eI, eP, eT, setM, setF, List.map, List.append, List.drop, List.take]
    refine R.seq ?_
    refine R.region_lit rfl ?_
    refine K.seq_pure (K.lss rfl rfl) rfl ?_
    refine Rv.zn ?_
    refine K.seq_nil ?_
    refine R.out ?_
    refine R.norm_then ?_
    refine R.seq ?_
    refine R.cond rfl (fun ht41 => ?_) (fun ht41 => ?_)
    · try replace ht41 := of_decide_eq_true ht41
      have hj : j < rs.length := by omega
      refine R.skip ?_
      refine R.norm_then ?_
      refine R.seq ?_
      refine R.block ?_
      refine R.seq ?_
      refine R.region_lit rfl ?_
      refine K.seq_ix (M := []) _ hR.sl sl_36 rfl rfl rfl (by omega) rfl ?_
      intro p42 hp42
      try dsimp only [setd, setn, ev, nth, over, cl, eI, eP, eT, List.map, List.append, List.drop, List.take]
      refine K.seq_sil (K.loadA_p ag_94 rfl (hp42.any) rfl) rfl ?_
      try dsimp only [setd, setn, ev, nth, over, cl, eI, eP, eT, List.map, List.append, List.drop, List.take]
      refine K.seq_new (K.alloc zr_94) rfl ?_
      intro b11
      try dsimp only [setd, setn, ev, nth, over, cl, eI, eP, eT, List.map, List.append, List.drop, List.take]
      refine K.seq_st (K.store_all sz_94 rfl rfl rfl rfl (K.rp0)) rfl ?_
      try dsimp only [setd, setn, ev, nth, over, cl, eI, eP, eT, List.map, List.append, List.drop, List.take]
      refine K.seq_nil ?_
      refine R.out ?_
      refine R.norm_then ?_
      refine R.seq ?_
      refine R.draw_L [] Tryz_mixed rfl ?_
      refine K.d_mem 0 rfl (K.loadA_own ag_99 rfl (K.m4) rfl) (fun _ h => h) (by kernel_rfl) (by kernel_rfl) rfl ?_
      try dsimp only [setd, setn, ev, nth, over, cl, eI, eP, eT, List.map, List.append, List.drop, List.take]
      refine K.d_mem 1 rfl (K.loadA_own ag_94 rfl (K.m0) rfl) (fun _ h => h) (by kernel_rfl) (by kernel_rfl) rfl ?_
      try dsimp only [setd, setn, ev, nth, over, cl, eI, eP, eT, List.map, List.append, List.drop, List.take]
      refine K.d_mem 2 rfl (K.loadA_own ag_42 rfl (K.m2) rfl) (fun _ h => h) (by kernel_rfl) (by kernel_rfl) rfl ?_
      try dsimp only [setd, setn, ev, nth, over, cl, eI, eP, eT, List.map, List.append, List.drop, List.take]
      refine K.d_mem 3 rfl (K.loadA_own ag_103 rfl ((K.m1)) rfl) (fun _ h => h) (by kernel_rfl) (by kernel_rfl) rfl ?_
      try dsimp only [setd, setn, ev, nth, over, cl, eI, eP, eT, List.map, List.append, List.drop, List.take]
      refine K.d_mem 5 rfl (K.load1_own one_3 rfl (K.m6) rfl) (fun _ h => h) (by kernel_rfl) (by kernel_rfl) rfl ?_
      try dsimp only [setd, setn, ev, nth, over, cl, eI, eP, eT, List.map, List.append, List.drop, List.take]
      refine K.d_call 4 rfl (K.call_g cal_51 (fun F w hF hw => c62 (r := rs.getD j default) (cs := (cuts kind base x.1 x.2 hs)) (hH.pass hw) (g.road4 hj) (by omega) g.bdh (g.bdc hp) hp)) (fun _ h => h) (by kernel_rfl) rfl ?_
      try dsimp only [setd, setn, ev, nth, over, cl, eI, eP, eT, List.map, List.append, List.drop, List.take]
      refine K.d_pure 6 rfl (K.gtr rfl rfl) (by kernel_rfl) rfl ?_
      refine Rv.zn ?_
      refine K.d_done (by kernel_rfl) ?_
      refine R.out ?_
      refine R.norm_then ?_
      refine R.cond rfl (fun ht50 => ?_) (fun ht50 => ?_)
      · try replace ht50 := of_decide_eq_true ht50
        refine R.exit ?_
        refine R.exit_out rfl ?_
        refine R.exit_then ?_
        refine R.exit_then ?_
        refine R.exit_out rfl ?_
        refine R.exit_then ?_
        refine R.exit_here ?_
        exact R.rp_normal (L := [K.blk b24 3 [.int .i64 limit], K.blk b6 99 [.int .i64 kind, .int .i64 base, .int .i64 most, .slice A hs.length c, .slice B rs.length d, .func (.func (110 + kind.toNat)) #[] #[]], K.blk b4 42 [.int .i64 best.1, .int .i64 best.2], K.blk b3 3 [.int .i64 limit], K.blk b2 38 [.int .i64 kind, .int .i64 base, .int .i64 most, .slice A hs.length c, .slice B rs.length d]]) ⟨best, rfl, by rw [take_snoc hx, lastG_f (okG_f (roadP_not hj ht50)), hbest]⟩ (by repeat (first | exact List.Sublist.refl _ | apply List.Sublist.cons))
      try replace ht50 := of_decide_eq_false ht50
      refine R.skip ?_
      refine R.norm_block ?_
      refine R.norm_then ?_
      refine R.region_lit rfl ?_
      refine K.seq_pure (K.add_i64 rfl rfl (by omega)) rfl ?_
      refine Rv.zn ?_
      refine K.seq_pure (K.move) rfl ?_
      refine Rv.zn ?_
      refine K.seq_nil ?_
      refine R.out ?_
      exact R.round_endW [.int .i64 ((j : Int) + 1)] ⟨j + 1, rfl, rfl, by omega, K.lt_succ_case hall (Int.not_lt.1 ht50)⟩ (by simp [K.nth, intOf]; omega) (by repeat (first | exact List.Sublist.refl _ | apply List.Sublist.cons)) (by kernel_rfl)
    try replace ht41 := of_decide_eq_false ht41
    refine R.exit ?_
    refine R.exit_then ?_
    refine R.exit_then ?_
    refine R.exit_here ?_
    refine R.norm_then ?_
    refine R.region_lit rfl ?_
    refine K.seq_sil (K.loadA_own ag_42 rfl (K.m1) rfl) rfl ?_
    try dsimp only [setd, setn, ev, nth, over, cl, eI, eP, eT, List.map, List.append, List.drop, List.take]
    refine K.seq_st (K.store_all sz_42 rfl rfl rfl rfl (K.rp4)) rfl ?_
    try dsimp only [setd, setn, ev, nth, over, cl, eI, eP, eT, List.map, List.append, List.drop, List.take]
    refine K.seq_nil ?_
    refine R.out ?_
    refine R.norm_block ?_
    exact R.rp_normal (L := [K.blk b24 3 [.int .i64 limit], K.blk b6 99 [.int .i64 kind, .int .i64 base, .int .i64 most, .slice A hs.length c, .slice B rs.length d, .func (.func (110 + kind.toNat)) #[] #[]], K.blk b4 42 [.int .i64 x.1, .int .i64 x.2], K.blk b3 3 [.int .i64 limit], K.blk b2 38 [.int .i64 kind, .int .i64 base, .int .i64 most, .slice A hs.length c, .slice B rs.length d]]) ⟨x, rfl, by rw [take_snoc hx, lastG_t (okG_t hfit (roadP_all (fun i hi => hall i (by omega))))]⟩ (by repeat (first | exact List.Sublist.refl _ | apply List.Sublist.cons))
  · intro bD L hJ
    obtain ⟨best, rfl, hbest⟩ := hJ
    rw [List.take_length] at hbest
    try dsimp only [List.cons_append, List.nil_append]
    try dsimp only [setd, setn, ev, nth, over, cl, eI, eP, eT, setM, setF, List.map, List.append, List.drop, List.take]
    refine R.norm_block ?_
    refine R.norm_then ?_
    refine R.seq ?_
    refine R.seq ?_
    refine R.region_lit rfl ?_
    refine K.seq_sil (K.loadA_own ag_42 rfl (K.m2) rfl) rfl ?_
    try dsimp only [setd, setn, ev, nth, over, cl, eI, eP, eT, List.map, List.append, List.drop, List.take]
    refine K.seq_pure (K.build (bl27z)) rfl ?_
    try dsimp only [setd, setn, ev, nth, over, cl, eI, eP, eT, List.map, List.append, List.drop, List.take]
    refine K.seq_pure (K.eql_s2 s2_27 rfl rfl) rfl ?_
    refine Rv.zn ?_
    refine K.seq_nil ?_
    refine R.out ?_
    refine R.norm_then ?_
    refine R.cond rfl (fun ht55 => ?_) (fun ht55 => ?_)
    · try replace ht55 := of_decide_eq_true ht55
      refine R.seq ?_
      refine R.region_lit rfl ?_
      refine K.seq_sil (K.loadA_own ag_42 rfl (K.m2) rfl) rfl ?_
      try dsimp only [setd, setn, ev, nth, over, cl, eI, eP, eT, List.map, List.append, List.drop, List.take]
      refine K.seq_st (K.store_all sz_42 rfl rfl rfl rfl (K.rp2)) rfl ?_
      try dsimp only [setd, setn, ev, nth, over, cl, eI, eP, eT, List.map, List.append, List.drop, List.take]
      refine K.seq_pure (K.assign) rfl ?_
      refine Rv.zn ?_
      refine K.seq_nil ?_
      refine R.out ?_
      refine R.norm_then ?_
      refine R.ret ?_
      refine R.ret_then ?_
      refine R.ng_ret ?_
      refine R.end_ret1 rfl (by dsimp only [List.dropLast]; exact (fun w hw => K.res_ct rfl rfl (K.run_cellA ag_42 rfl (K.m2) rfl w hw))) ?_
      dsimp only [List.dropLast]
      have hb0 : best = (0, 0) := ht55
      exact K.gives (by rw [if_pos (by omega), if_pos (by rw [← hbest]; exact hb0), hb0]; rfl)
    try replace ht55 := of_decide_eq_false ht55
    refine R.skip ?_
    refine R.norm_then ?_
    refine R.seq ?_
    refine R.region_lit rfl ?_
    refine K.seq_sil (K.loadA_own ag_42 rfl (K.m2) rfl) rfl ?_
    try dsimp only [setd, setn, ev, nth, over, cl, eI, eP, eT, List.map, List.append, List.drop, List.take]
    refine K.seq_st (K.store_all sz_42 rfl rfl rfl rfl (K.rp2)) rfl ?_
    try dsimp only [setd, setn, ev, nth, over, cl, eI, eP, eT, List.map, List.append, List.drop, List.take]
    refine K.seq_pure (K.assign) rfl ?_
    refine Rv.zn ?_
    refine K.seq_nil ?_
    refine R.out ?_
    refine R.norm_then ?_
    refine R.ret ?_
    refine R.ng_ret ?_
    refine R.end_ret1 rfl (by dsimp only [List.dropLast]; exact (fun w hw => K.res_ct rfl rfl (K.run_cellA ag_42 rfl (K.m2) rfl w hw))) ?_
    dsimp only [List.dropLast]
    exact K.gives (by rw [if_pos (by omega), if_neg (by rw [← hbest]; exact ht55), ← hbest]; rfl)
  · intro bD cx L hJ
    obtain ⟨rfl, best, rfl, hbest⟩ := hJ
    try dsimp only [List.cons_append, List.nil_append]
    try dsimp only [setd, setn, ev, nth, over, cl, eI, eP, eT, setM, setF, List.map, List.append, List.drop, List.take]
    refine R.exit ?_
    refine R.exit_here ?_
    refine R.norm_then ?_
    refine R.seq ?_
    refine R.seq ?_
    refine R.region_lit rfl ?_
    refine K.seq_sil (K.loadA_own ag_42 rfl (K.m2) rfl) rfl ?_
    try dsimp only [setd, setn, ev, nth, over, cl, eI, eP, eT, List.map, List.append, List.drop, List.take]
    refine K.seq_pure (K.build (bl27z)) rfl ?_
    try dsimp only [setd, setn, ev, nth, over, cl, eI, eP, eT, List.map, List.append, List.drop, List.take]
    refine K.seq_pure (K.eql_s2 s2_27 rfl rfl) rfl ?_
    refine Rv.zn ?_
    refine K.seq_nil ?_
    refine R.out ?_
    refine R.norm_then ?_
    refine R.cond rfl (fun ht55 => ?_) (fun ht55 => ?_)
    · try replace ht55 := of_decide_eq_true ht55
      refine R.seq ?_
      refine R.region_lit rfl ?_
      refine K.seq_sil (K.loadA_own ag_42 rfl (K.m2) rfl) rfl ?_
      try dsimp only [setd, setn, ev, nth, over, cl, eI, eP, eT, List.map, List.append, List.drop, List.take]
      refine K.seq_st (K.store_all sz_42 rfl rfl rfl rfl (K.rp2)) rfl ?_
      try dsimp only [setd, setn, ev, nth, over, cl, eI, eP, eT, List.map, List.append, List.drop, List.take]
      refine K.seq_pure (K.assign) rfl ?_
      refine Rv.zn ?_
      refine K.seq_nil ?_
      refine R.out ?_
      refine R.norm_then ?_
      refine R.ret ?_
      refine R.ret_then ?_
      refine R.ng_ret ?_
      refine R.end_ret1 rfl (by dsimp only [List.dropLast]; exact (fun w hw => K.res_ct rfl rfl (K.run_cellA ag_42 rfl (K.m2) rfl w hw))) ?_
      dsimp only [List.dropLast]
      have hb0 : best = (0, 0) := ht55
      exact K.gives (by rw [if_pos (by omega), if_pos (by rw [← hbest]; exact hb0), hb0]; rfl)
    try replace ht55 := of_decide_eq_false ht55
    refine R.skip ?_
    refine R.norm_then ?_
    refine R.seq ?_
    refine R.region_lit rfl ?_
    refine K.seq_sil (K.loadA_own ag_42 rfl (K.m2) rfl) rfl ?_
    try dsimp only [setd, setn, ev, nth, over, cl, eI, eP, eT, List.map, List.append, List.drop, List.take]
    refine K.seq_st (K.store_all sz_42 rfl rfl rfl rfl (K.rp2)) rfl ?_
    try dsimp only [setd, setn, ev, nth, over, cl, eI, eP, eT, List.map, List.append, List.drop, List.take]
    refine K.seq_pure (K.assign) rfl ?_
    refine Rv.zn ?_
    refine K.seq_nil ?_
    refine R.out ?_
    refine R.norm_then ?_
    refine R.ret ?_
    refine R.ng_ret ?_
    refine R.end_ret1 rfl (by dsimp only [List.dropLast]; exact (fun w hw => K.res_ct rfl rfl (K.run_cellA ag_42 rfl (K.m2) rfl w hw))) ?_
    dsimp only [List.dropLast]
    exact K.gives (by rw [if_pos (by omega), if_neg (by rw [← hbest]; exact ht55), ← hbest]; rfl)

end Go.Proofs.YtekkpcpbnonkaaaGreatDoor.Sc
end
section
set_option linter.unusedSimpArgs false
set_option linter.unusedVariables false
namespace Go.Proofs.YtekkpcpbnonkaaaGreatDoor.Sc
open Go.RowKit Go
open Go.K (setd setn ev nth over cl eI eP eT setM setF)
attribute [local irreducible] K.blk K.row

set_option maxRecDepth 100000 in
theorem e29 {kind base most : Int} {A B : Option Addr} {c d : Nat} {hs : List Int} {rs : List (Int × Int)} {w : World} (hH : K.Rd w A 1 K.eI hs) (hR : K.Rd w B 2 K.eP rs) (hn : hs.length ≤ 4611686018427387904) (hm : rs.length ≤ 4611686018427387904) (he : (chk kind base most hs rs).2.2 ≠ 0) :
    Calls Tryz.prog 23 [.agg #[.int .i64 kind, .int .i64 base, .int .i64 most, .slice A hs.length c, .slice B rs.length d]].toArray w (K.Gives (.tuple #[.agg #[.int .i64 0, .int .i64 0], .int .i64 (chk kind base most hs rs).2.2]) w) := by
  refine K.enter (args := [.agg #[.int .i64 kind, .int .i64 base, .int .i64 most, .slice A hs.length c, .slice B rs.length d]]) Tryz.func23 rfl (n := 34) rfl ?_
  simp only [List.replicate, List.cons_append, List.nil_append]
  refine K.seq ?_
  refine K.region_lit ?_
  refine K.seq_new (K.box) rfl ?_
  intro b1
  try dsimp only [setd, setn, ev, nth, over, cl, eI, eP, eT, List.map, List.append, List.drop, List.take]
  refine K.seq_new (K.alloc zr_42) rfl ?_
  intro b2
  try dsimp only [setd, setn, ev, nth, over, cl, eI, eP, eT, List.map, List.append, List.drop, List.take]
  refine K.seq_new (K.alloc zr_24) rfl ?_
  intro b3
  try dsimp only [setd, setn, ev, nth, over, cl, eI, eP, eT, List.map, List.append, List.drop, List.take]
  refine K.seq_nil ?_
  refine K.norm_then ?_
  refine K.seq ?_
  refine K.region_lit ?_
  refine K.seq_sil (K.loadA_own ag_38 rfl (K.m2) rfl) rfl ?_
  try dsimp only [setd, setn, ev, nth, over, cl, eI, eP, eT, List.map, List.append, List.drop, List.take]
  refine K.seq_call (K.call_g cal_44 (fun F w hF hw => e58 (l := []) (hH.pass hw) (hR.pass hw) hn hm he)) rfl ?_
  try dsimp only [setd, setn, ev, nth, over, cl, eI, eP, eT, List.map, List.append, List.drop, List.take]
  refine K.seq_pure (K.move) rfl ?_
  refine Rv.zn ?_
  refine K.seq_pure (K.extract rfl rfl) rfl ?_
  refine Rv.zn ?_
  refine K.seq_pure (K.extract rfl rfl) rfl ?_
  refine Rv.zn ?_
  refine K.seq_new (K.alloc zr_99) rfl ?_
  intro b4
  try dsimp only [setd, setn, ev, nth, over, cl, eI, eP, eT, List.map, List.append, List.drop, List.take]
  refine K.seq_st (K.store_all sz_99 rfl rfl rfl rfl (K.rp0)) rfl ?_
  try dsimp only [setd, setn, ev, nth, over, cl, eI, eP, eT, List.map, List.append, List.drop, List.take]
  refine K.seq_pure (K.assign) rfl ?_
  refine Rv.zn ?_
  refine K.seq_nil ?_
  refine K.norm_then ?_
  refine K.seq ?_
  refine K.seq ?_
  refine K.region_lit ?_
  refine K.seq_pure (K.move) rfl ?_
  refine Rv.zn ?_
  refine K.seq_pure (K.neq rfl rfl) rfl ?_
  refine Rv.zn ?_
  refine K.seq_nil ?_
  refine K.norm_then ?_
  refine K.cond rfl (fun ht15 => ?_) (fun ht15 => ?_)
  · try replace ht15 := of_decide_eq_true ht15
    refine K.seq ?_
    refine K.region_lit ?_
    refine K.seq_pure (K.build (bl27z)) rfl ?_
    try dsimp only [setd, setn, ev, nth, over, cl, eI, eP, eT, List.map, List.append, List.drop, List.take]
    refine K.seq_pure (K.move) rfl ?_
    refine Rv.zn ?_
    refine K.seq_st (K.store_all sz_42 rfl rfl rfl rfl (K.rp2)) rfl ?_
    try dsimp only [setd, setn, ev, nth, over, cl, eI, eP, eT, List.map, List.append, List.drop, List.take]
    refine K.seq_st (K.store sz_24 rfl rfl rfl rfl (K.rp1)) rfl ?_
    try dsimp only [setd, setn, ev, nth, over, cl, eI, eP, eT, List.map, List.append, List.drop, List.take]
    refine K.seq_nil ?_
    refine K.norm_then ?_
    refine K.ret ?_
    refine K.ret_then ?_
    refine K.end_ret (fun w hw => K.res_cc rfl rfl rfl (K.run_cellA ag_42 rfl (K.m2) rfl w hw) (K.run_cell1 one_24 rfl (K.m1) w hw)) ?_
    exact K.gives rfl
  try replace ht15 := of_decide_eq_false ht15
  exact absurd he ht15

set_option maxRecDepth 100000 in
theorem g29 {kind base most : Int} {A B : Option Addr} {c d : Nat} {hs : List Int} {rs : List (Int × Int)} {w : World} (hH : K.Rd w A 1 K.eI hs) (hR : K.Rd w B 2 K.eP rs) (g : Good kind base most hs rs) :
    Calls Tryz.prog 23 [.agg #[.int .i64 kind, .int .i64 base, .int .i64 most, .slice A hs.length c, .slice B rs.length d]].toArray w (K.Gives (if frstG (okL kind base most hs rs) SB = (0, 0) then .tuple #[.agg #[.int .i64 0, .int .i64 0], .int .i64 9] else .tuple #[.agg #[.int .i64 (frstG (okL kind base most hs rs) SB).1, .int .i64 (frstG (okL kind base most hs rs) SB).2], .int .i64 0]) w) := by
  have g1 := g.k
  have g2 := g.n
  have g3 := g.r
  have g4 := g.b
  have g5 := g.m
  refine R.enter (args := [.agg #[.int .i64 kind, .int .i64 base, .int .i64 most, .slice A hs.length c, .slice B rs.length d]]) Tryz.func23 rfl (m := 34) rfl ?_
  simp only [List.replicate, List.cons_append, List.nil_append]
  refine R.seq ?_
  refine R.region_lit rfl ?_
  refine K.seq_new (K.box) rfl ?_
  intro b1
  try dsimp only [setd, setn, ev, nth, over, cl, eI, eP, eT, List.map, List.append, List.drop, List.take]
  refine K.seq_new (K.alloc zr_42) rfl ?_
  intro b2
  try dsimp only [setd, setn, ev, nth, over, cl, eI, eP, eT, List.map, List.append, List.drop, List.take]
  refine K.seq_new (K.alloc zr_24) rfl ?_
  intro b3
  try dsimp only [setd, setn, ev, nth, over, cl, eI, eP, eT, List.map, List.append, List.drop, List.take]
  refine K.seq_nil ?_
  refine R.out ?_
  refine R.norm_then ?_
  refine R.seq ?_
  refine R.region_lit rfl ?_
  refine K.seq_sil (K.loadA_own ag_38 rfl (K.m2) rfl) rfl ?_
  try dsimp only [setd, setn, ev, nth, over, cl, eI, eP, eT, List.map, List.append, List.drop, List.take]
  refine K.seq_call (K.call_g cal_44 (fun F w hF hw => c58 (l := []) (hH.pass hw) (hR.pass hw) g K.Rd.nil (by simp))) rfl ?_
  try dsimp only [setd, setn, ev, nth, over, cl, eI, eP, eT, List.map, List.append, List.drop, List.take]
  refine K.seq_pure (K.move) rfl ?_
  refine Rv.zn ?_
  refine K.seq_pure (K.extract rfl rfl) rfl ?_
  refine Rv.zn ?_
  refine K.seq_pure (K.extract rfl rfl) rfl ?_
  refine Rv.zn ?_
  refine K.seq_new (K.alloc zr_99) rfl ?_
  intro b4
  try dsimp only [setd, setn, ev, nth, over, cl, eI, eP, eT, List.map, List.append, List.drop, List.take]
  refine K.seq_st (K.store_all sz_99 rfl rfl rfl rfl (K.rp0)) rfl ?_
  try dsimp only [setd, setn, ev, nth, over, cl, eI, eP, eT, List.map, List.append, List.drop, List.take]
  refine K.seq_pure (K.assign) rfl ?_
  refine Rv.zn ?_
  refine K.seq_nil ?_
  refine R.out ?_
  refine R.norm_then ?_
  refine R.seq ?_
  refine R.seq ?_
  refine R.region_lit rfl ?_
  refine K.seq_pure (K.move) rfl ?_
  refine Rv.zn ?_
  refine K.seq_pure (K.neq rfl rfl) rfl ?_
  refine Rv.zn ?_
  refine K.seq_nil ?_
  refine R.out ?_
  refine R.norm_then ?_
  refine R.cond rfl (fun ht15 => ?_) (fun ht15 => ?_)
  · try replace ht15 := of_decide_eq_true ht15
    exact absurd rfl ht15
  try replace ht15 := of_decide_eq_false ht15
  refine R.skip ?_
  refine R.norm_then ?_
  refine R.seq ?_
  refine R.seq ?_
  refine R.region_lit rfl ?_
  refine K.seq_call (K.call_g cal_54 (fun F w hF hw => c67 w)) rfl ?_
  try dsimp only [setd, setn, ev, nth, over, cl, eI, eP, eT, List.map, List.append, List.drop, List.take]
  refine K.seq_nil ?_
  refine R.out ?_
  refine R.norm_then ?_
  refine R.block ?_
  refine R.rangeF (gf := 85) (enc := (fun x : Int × Int => Value.agg #[.int .i64 x.1, .int .i64 x.2])) (XS := SB) rfl cal_85 c90 (fun k L => L = [K.blk b4 99 [.int .i64 kind, .int .i64 base, .int .i64 most, .slice A hs.length c, .slice B rs.length d, .func (.func (110 + kind.toNat)) #[] #[]], K.blk b3 24 [.int .i64 0], K.blk b2 42 [.int .i64 0, .int .i64 0], K.blk b1 38 [.int .i64 kind, .int .i64 base, .int .i64 most, .slice A hs.length c, .slice B rs.length d]] ∧ ∀ s ∈ SB.take k, (okL kind base most hs rs) s = false) (fun cX L => cX = .ret ∧ ∃ best : Int × Int, L = [K.blk b4 99 [.int .i64 kind, .int .i64 base, .int .i64 most, .slice A hs.length c, .slice B rs.length d, .func (.func (110 + kind.toNat)) #[] #[]], K.blk b3 24 [.int .i64 0], K.blk b2 42 [.int .i64 best.1, .int .i64 best.2], K.blk b1 38 [.int .i64 kind, .int .i64 base, .int .i64 most, .slice A hs.length c, .slice B rs.length d]] ∧ best = frstG (okL kind base most hs rs) SB ∧ best ≠ (0, 0)) ?_ ?_ ?_ ?_
  · exact ⟨rfl, by simp⟩
  · intro k x L lr E hx hJ
    obtain ⟨rfl, hall⟩ := hJ
    have hp := sb_parts hx
    try dsimp only [List.cons_append, List.nil_append]
    try dsimp only [setd, setn, ev, nth, over, cl, eI, eP, eT, setM, setF, List.map, List.append, List.drop, List.take]
    refine R.region_lit rfl ?_
    refine K.seq_new (K.alloc zr_42) rfl ?_
    intro b6
    try dsimp only [setd, setn, ev, nth, over, cl, eI, eP, eT, List.map, List.append, List.drop, List.take]
    refine K.seq_st (K.store_all sz_42 rfl rfl rfl rfl (K.rp0)) rfl ?_
    try dsimp only [setd, setn, ev, nth, over, cl, eI, eP, eT, List.map, List.append, List.drop, List.take]
    refine K.seq_nil ?_
    refine R.out ?_
    refine R.norm_then ?_
    refine R.body' rfl (fun E => ?_)
    dsimp only [List.dropLast, List.cons_append, List.nil_append]
    try dsimp only [setd, setn, ev, nth, over, cl, eI, eP, eT, List.map, List.append, List.drop, List.take]
    refine R.block ?_
    refine R.seq ?_
    refine R.region_lit rfl ?_
    refine K.seq_sil (K.loadA_own ag_99 rfl (K.m1) rfl) rfl ?_
    try dsimp only [setd, setn, ev, nth, over, cl, eI, eP, eT, List.map, List.append, List.drop, List.take]
    refine K.seq_sil (K.loadA_own ag_42 rfl (K.m0) rfl) rfl ?_
    try dsimp only [setd, setn, ev, nth, over, cl, eI, eP, eT, List.map, List.append, List.drop, List.take]
    refine K.seq_call (K.call_g cal_45 (fun F w hF hw => c59 (u := x.1) (v := x.2) (hH.pass hw) g hp)) rfl ?_
    try dsimp only [setd, setn, ev, nth, over, cl, eI, eP, eT, List.map, List.append, List.drop, List.take]
    refine K.seq_pure (K.move) rfl ?_
    refine Rv.zn ?_
    refine K.seq_pure (K.extract rfl rfl) rfl ?_
    refine Rv.zn ?_
    refine K.seq_pure (K.extract rfl rfl) rfl ?_
    refine Rv.zn ?_
    refine K.seq_new (K.alloc zr_103) rfl ?_
    intro b7
    try dsimp only [setd, setn, ev, nth, over, cl, eI, eP, eT, List.map, List.append, List.drop, List.take]
    refine K.seq_st (K.store_all sz_103 rfl rfl rfl rfl (K.rp0)) rfl ?_
    try dsimp only [setd, setn, ev, nth, over, cl, eI, eP, eT, List.map, List.append, List.drop, List.take]
    refine K.seq_pure (K.assign) rfl ?_
    refine Rv.zn ?_
    refine K.seq_nil ?_
    refine R.out ?_
    refine R.norm_then ?_
    refine R.seq ?_
    refine R.region_lit rfl ?_
    refine K.seq_pure (K.move) rfl ?_
    refine Rv.zn ?_
    refine K.seq_pure (K.move) rfl ?_
    refine Rv.zn ?_
    refine K.split 27 rfl (fun hg27 => ?_) (fun hg27 => ?_)
    · try replace hg27 := of_decide_eq_true hg27
      refine K.seq_sil (K.loadA_own ag_99 rfl (K.m2) rfl) rfl ?_
      try dsimp only [setd, setn, ev, nth, over, cl, eI, eP, eT, List.map, List.append, List.drop, List.take]
      refine K.seq_sil (K.loadA_own ag_103 rfl ((K.m0)) rfl) rfl ?_
      try dsimp only [setd, setn, ev, nth, over, cl, eI, eP, eT, List.map, List.append, List.drop, List.take]
      refine K.seq_loud (K.call_f cal_52 (fun F w hF hw => c64 (cs := (cuts kind base x.1 x.2 hs)) (hH.pass hw) (hR.pass hw) (by omega) g.bdh (g.bdc hp) (fun i hi => g.road4 hi) (by omega))) rfl ?_
      rintro ⟨A1, c1⟩ hA1
      try dsimp only [setd, setn, ev, nth, over, cl, eI, eP, eT, List.map, List.append, List.drop, List.take]
      refine K.seq_pure (K.eql_slnil sl_28 rfl) rfl ?_
      refine Rv.zn ?_
      refine K.seq_pure (K.pick_t rfl) rfl ?_
      refine Rv.zn ?_
      refine K.seq_nil ?_
      refine R.out ?_
      refine R.norm_then ?_
      refine R.cond rfl (fun ht32 => ?_) (fun ht32 => ?_)
      · try replace ht32 := of_decide_eq_true ht32
        refine R.seq ?_
        refine R.region_lit rfl ?_
        refine K.seq_sil (K.loadA_own ag_42 rfl (K.m2) rfl) rfl ?_
        try dsimp only [setd, setn, ev, nth, over, cl, eI, eP, eT, List.map, List.append, List.drop, List.take]
        refine K.seq_st (K.store_all sz_42 rfl rfl rfl rfl (K.rp5)) rfl ?_
        try dsimp only [setd, setn, ev, nth, over, cl, eI, eP, eT, List.map, List.append, List.drop, List.take]
        refine K.seq_st (K.store sz_24 rfl rfl rfl rfl (K.rp4)) rfl ?_
        try dsimp only [setd, setn, ev, nth, over, cl, eI, eP, eT, List.map, List.append, List.drop, List.take]
        refine K.seq_nil ?_
        refine R.out ?_
        refine R.norm_then ?_
        refine R.ret ?_
        refine R.ret_block ?_
        exact R.rp_ret (L := [K.blk b4 99 [.int .i64 kind, .int .i64 base, .int .i64 most, .slice A hs.length c, .slice B rs.length d, .func (.func (110 + kind.toNat)) #[] #[]], K.blk b3 24 [.int .i64 0], K.blk b2 42 [.int .i64 x.1, .int .i64 x.2], K.blk b1 38 [.int .i64 kind, .int .i64 base, .int .i64 most, .slice A hs.length c, .slice B rs.length d]]) ⟨rfl, x, rfl, (frst_some hx hall (okL_t (by unfold fitP; exact hg27) (by rw [K.nnone hA1] at ht32; simpa using ht32))).symm, part_ne hp⟩ (by repeat (first | exact List.Sublist.refl _ | apply List.Sublist.cons))
      try replace ht32 := of_decide_eq_false ht32
      refine R.skip ?_
      refine R.norm_block ?_
      exact R.rp_normal (L := [K.blk b4 99 [.int .i64 kind, .int .i64 base, .int .i64 most, .slice A hs.length c, .slice B rs.length d, .func (.func (110 + kind.toNat)) #[] #[]], K.blk b3 24 [.int .i64 0], K.blk b2 42 [.int .i64 0, .int .i64 0], K.blk b1 38 [.int .i64 kind, .int .i64 base, .int .i64 most, .slice A hs.length c, .slice B rs.length d]]) ⟨rfl, all_snoc hx hall (okL_fn (by rw [K.nnone hA1] at ht32; simpa using ht32))⟩ (by repeat (first | exact List.Sublist.refl _ | apply List.Sublist.cons))
    try replace hg27 := of_decide_eq_false hg27
    refine K.seq_skip ?_ ?_
    · rfl
    try dsimp only [setd, setn, ev, nth, over, cl, eI, eP, eT, List.map, List.append, List.drop, List.take]
    refine K.seq_skip ?_ ?_
    · rfl
    try dsimp only [setd, setn, ev, nth, over, cl, eI, eP, eT, List.map, List.append, List.drop, List.take]
    refine K.seq_skip ?_ ?_
    · rfl
    try dsimp only [setd, setn, ev, nth, over, cl, eI, eP, eT, List.map, List.append, List.drop, List.take]
    refine K.seq_skip ?_ ?_
    · rfl
    try dsimp only [setd, setn, ev, nth, over, cl, eI, eP, eT, List.map, List.append, List.drop, List.take]
    refine K.seq_pure (K.pick_f rfl) rfl ?_
    refine Rv.zn ?_
    refine K.seq_nil ?_
    refine R.out ?_
    refine R.norm_then ?_
    refine R.cond_false rfl ?_
    refine R.skip ?_
    refine R.norm_block ?_
    exact R.rp_normal (L := [K.blk b4 99 [.int .i64 kind, .int .i64 base, .int .i64 most, .slice A hs.length c, .slice B rs.length d, .func (.func (110 + kind.toNat)) #[] #[]], K.blk b3 24 [.int .i64 0], K.blk b2 42 [.int .i64 0, .int .i64 0], K.blk b1 38 [.int .i64 kind, .int .i64 base, .int .i64 most, .slice A hs.length c, .slice B rs.length d]]) ⟨rfl, all_snoc hx hall (okL_ff (by unfold fitP; exact hg27))⟩ (by repeat (first | exact List.Sublist.refl _ | apply List.Sublist.cons))
  · intro bD L hJ
    obtain ⟨rfl, hall⟩ := hJ
    rw [List.take_length] at hall
    try dsimp only [List.cons_append, List.nil_append]
    try dsimp only [setd, setn, ev, nth, over, cl, eI, eP, eT, setM, setF, List.map, List.append, List.drop, List.take]
    refine R.norm_block ?_
    refine R.norm_then ?_
    refine R.seq ?_
    refine R.region_lit rfl ?_
    refine K.seq_pure (K.build (bl27z)) rfl ?_
    try dsimp only [setd, setn, ev, nth, over, cl, eI, eP, eT, List.map, List.append, List.drop, List.take]
    refine K.seq_st (K.store_all sz_42 rfl rfl rfl rfl (K.rp2)) rfl ?_
    try dsimp only [setd, setn, ev, nth, over, cl, eI, eP, eT, List.map, List.append, List.drop, List.take]
    refine K.seq_st (K.store sz_24 rfl rfl rfl rfl (K.rp1)) rfl ?_
    try dsimp only [setd, setn, ev, nth, over, cl, eI, eP, eT, List.map, List.append, List.drop, List.take]
    refine K.seq_nil ?_
    refine R.out ?_
    refine R.norm_then ?_
    refine R.ret ?_
    refine R.end_ret1 rfl (by dsimp only [List.dropLast]; exact (fun w hw => K.res_cc rfl rfl rfl (K.run_cellA ag_42 rfl (K.m2) rfl w hw) (K.run_cell1 one_24 rfl (K.m1) w hw))) ?_
    dsimp only [List.dropLast]
    exact K.gives (by rw [if_pos (frst_none hall)])
  · intro bD cx L hJ
    obtain ⟨rfl, best, rfl, hbest, hne⟩ := hJ
    try dsimp only [List.cons_append, List.nil_append]
    try dsimp only [setd, setn, ev, nth, over, cl, eI, eP, eT, setM, setF, List.map, List.append, List.drop, List.take]
    refine R.ret ?_
    refine R.ret_block ?_
    refine R.ret_then ?_
    refine R.end_ret1 rfl (by dsimp only [List.dropLast]; exact (fun w hw => K.res_cc rfl rfl rfl (K.run_cellA ag_42 rfl (K.m2) rfl w hw) (K.run_cell1 one_24 rfl (K.m1) w hw))) ?_
    dsimp only [List.dropLast]
    exact K.gives (by rw [if_neg (by rw [← hbest]; exact hne), ← hbest])

end Go.Proofs.YtekkpcpbnonkaaaGreatDoor.Sc
end
section
set_option linter.unusedSimpArgs false
set_option linter.unusedVariables false
namespace Go.Proofs.YtekkpcpbnonkaaaGreatDoor.Sc
open Go.RowKit Go
open Go.K (setd setn ev nth over cl eI eP eT setM setF)
attribute [local irreducible] K.blk K.row

theorem c27 {kind base most : Int} {A B : Option Addr} {c d : Nat} {hs : List Int} {rs : List (Int × Int)} {limit : Int} {w : World} (hH : K.Rd w A 1 K.eI hs) (hR : K.Rd w B 2 K.eP rs) (hn : hs.length ≤ 4611686018427387904) (hm : rs.length ≤ 4611686018427387904) : Calls Tryz.prog 22 [.agg #[.int .i64 kind, .int .i64 base, .int .i64 most, .slice A hs.length c, .slice B rs.length d], .int .i64 limit].toArray w (K.Gives (sev (grtR kind base most hs rs limit)) w) := by
  by_cases he : (chk kind base most hs rs).2.2 = 0
  · have h := g27 (A := A) (B := B) (c := c) (d := d) (limit := limit) (w := w) hH hR (chk_good he)
    refine h.mono fun e w' hg => ?_
    unfold grtR
    rw [if_neg (fun h => h he)]
    by_cases hl : 0 ≤ limit ∧ limit ≤ 1000000
    · rw [if_pos hl] at hg
      rw [if_neg (fun h => h hl)]
      by_cases h0 : lastG (okG kind base most hs rs limit) SB = (0, 0)
      · rw [if_pos h0] at hg; rw [if_pos h0]; exact hg
      · rw [if_neg h0] at hg; rw [if_neg h0]; exact hg
    · rw [if_neg hl] at hg
      rw [if_pos hl]
      exact hg
  · have h := e27 (A := A) (B := B) (c := c) (d := d) (limit := limit) (w := w) hH hR hn hm he
    have e : grtR kind base most hs rs limit = ((0, 0), (chk kind base most hs rs).2.2) := by unfold grtR; rw [if_pos he]
    rw [e]
    exact h




theorem c29 {kind base most : Int} {A B : Option Addr} {c d : Nat} {hs : List Int} {rs : List (Int × Int)} {w : World} (hH : K.Rd w A 1 K.eI hs) (hR : K.Rd w B 2 K.eP rs) (hn : hs.length ≤ 4611686018427387904) (hm : rs.length ≤ 4611686018427387904) : Calls Tryz.prog 23 [.agg #[.int .i64 kind, .int .i64 base, .int .i64 most, .slice A hs.length c, .slice B rs.length d]].toArray w (K.Gives (sev (lstR kind base most hs rs)) w) := by
  by_cases he : (chk kind base most hs rs).2.2 = 0
  · have h := g29 (A := A) (B := B) (c := c) (d := d) (w := w) hH hR (chk_good he)
    refine h.mono fun e w' hg => ?_
    unfold lstR
    rw [if_neg (fun h => h he)]
    by_cases h0 : frstG (okL kind base most hs rs) SB = (0, 0)
    · rw [if_pos h0] at hg; rw [if_pos h0]; exact hg
    · rw [if_neg h0] at hg; rw [if_neg h0]; exact hg
  · have h := e29 (A := A) (B := B) (c := c) (d := d) (w := w) hH hR hn hm he
    have e : lstR kind base most hs rs = ((0, 0), (chk kind base most hs rs).2.2) := by unfold lstR; rw [if_pos he]
    rw [e]
    exact h




end Go.Proofs.YtekkpcpbnonkaaaGreatDoor.Sc
end
section
set_option linter.unusedSimpArgs false
set_option linter.unusedVariables false
namespace Go.Proofs.YtekkpcpbnonkaaaGreatDoor.Sc
open Go.RowKit Go
open Go.K (setd setn ev nth over cl eI eP eT setM setF)
attribute [local irreducible] K.blk K.row
theorem bsC : K.Bs Tryz.prog 28 4 [(0, .int .i64 100), (1, .int .i64 110), (2, .int .i64 125), (3, .int .i64 160)] 3 [.int .i64 100, .int .i64 110, .int .i64 125, .int .i64 160] := fun w => by kernel_rfl
theorem bl79 (a b : Int) : K.Bl Tryz.prog 94 [(0, .int .i64 a), (1, .int .i64 b)] (.agg #[.int .i64 a, .int .i64 b]) := fun w => by kernel_rfl
theorem bsR (a b a2 b2 a3 b3 : Int) : K.Bs Tryz.prog 36 3 [(0, .agg #[.int .i64 a, .int .i64 b]), (1, .agg #[.int .i64 a2, .int .i64 b2]), (2, .agg #[.int .i64 a3, .int .i64 b3])] 94 [.int .i64 a, .int .i64 b, .int .i64 a2, .int .i64 b2, .int .i64 a3, .int .i64 b3] := fun w => by kernel_rfl
theorem bl25 (a b c : Int) (p q : Nat) (n m : Nat) : K.Bl Tryz.prog 38 [(0, .int .i64 a), (1, .int .i64 b), (2, .int .i64 c), (3, .slice (some ⟨p, 0, none⟩) n n), (4, .slice (some ⟨q, 0, none⟩) m m)] (.agg #[.int .i64 a, .int .i64 b, .int .i64 c, .slice (some ⟨p, 0, none⟩) n n, .slice (some ⟨q, 0, none⟩) m m]) := fun w => by kernel_rfl

set_option maxRecDepth 100000 in
theorem c36 {kind : Int} (w : World) :
    Calls Tryz.prog 18 [.int .i64 kind].toArray w (K.Ret (fun _ : Nat × Nat => True) (fun r => .agg #[.int .i64 kind, .int .i64 100, .int .i64 50, .slice (some ⟨r.1, 0, none⟩) 4 4, .slice (some ⟨r.2, 0, none⟩) 3 3]) (fun r => [K.blk r.2 94 [.int .i64 0, .int .i64 1, .int .i64 1, .int .i64 2, .int .i64 3, .int .i64 2], K.blk r.1 3 [.int .i64 100, .int .i64 110, .int .i64 125, .int .i64 160]]) w) := by
  refine K.enter (args := [.int .i64 kind]) Tryz.func18 rfl (n := 9) rfl ?_
  simp only [List.replicate, List.cons_append, List.nil_append]
  refine K.seq ?_
  refine K.region_lit ?_
  refine K.seq_new (K.alloc zr_38) rfl ?_
  intro b2
  try dsimp only [setd, setn, ev, nth, over, cl, eI, eP, eT, List.map, List.append, List.drop, List.take]
  refine K.seq_nil ?_
  refine K.norm_then ?_
  refine K.seq ?_
  refine K.region_lit ?_
  refine K.seq_pure (K.move) rfl ?_
  refine Rv.zn ?_
  refine K.seq_new (K.buildSlice (bsC)) rfl ?_
  intro b4
  try dsimp only [setd, setn, ev, nth, over, cl, eI, eP, eT, List.map, List.append, List.drop, List.take]
  refine K.seq_pure (K.build (bl79 _ _)) rfl ?_
  try dsimp only [setd, setn, ev, nth, over, cl, eI, eP, eT, List.map, List.append, List.drop, List.take]
  refine K.seq_pure (K.build (bl79 _ _)) rfl ?_
  try dsimp only [setd, setn, ev, nth, over, cl, eI, eP, eT, List.map, List.append, List.drop, List.take]
  refine K.seq_pure (K.build (bl79 _ _)) rfl ?_
  try dsimp only [setd, setn, ev, nth, over, cl, eI, eP, eT, List.map, List.append, List.drop, List.take]
  refine K.seq_new (K.buildSlice (bsR _ _ _ _ _ _)) rfl ?_
  intro b8
  try dsimp only [setd, setn, ev, nth, over, cl, eI, eP, eT, List.map, List.append, List.drop, List.take]
  refine K.seq_pure (K.build (bl25 _ _ _ _ _ _ _)) rfl ?_
  try dsimp only [setd, setn, ev, nth, over, cl, eI, eP, eT, List.map, List.append, List.drop, List.take]
  refine K.seq_st (K.store_all sz_38 rfl rfl rfl rfl (K.rp2)) rfl ?_
  try dsimp only [setd, setn, ev, nth, over, cl, eI, eP, eT, List.map, List.append, List.drop, List.take]
  refine K.seq_nil ?_
  refine K.norm_then ?_
  refine K.ret ?_
  refine K.end_ret (fun w hw => K.res_c rfl rfl (K.run_cellA ag_38 rfl (K.m2) rfl w hw)) ?_
  exact K.rets (b4, b8) trivial rfl (List.Sublist.cons_cons _ (List.Sublist.cons_cons _ (List.nil_sublist _)))

end Go.Proofs.YtekkpcpbnonkaaaGreatDoor.Sc
end
section
set_option linter.unusedSimpArgs false
set_option linter.unusedVariables false
namespace Go.Proofs.YtekkpcpbnonkaaaGreatDoor.Sc
open Go.RowKit Go
open Go.K (setd setn ev nth over cl eI eP eT setM setF)
attribute [local irreducible] K.blk K.row
theorem c19t {A B : Option Addr} {c d : Nat} {xs : List Int} {w : World} (hX : K.Rd w A 1 K.eI xs) (hY : K.Rd w B 1 K.eI xs) (hn : xs.length ≤ 4611686018427387904) : Calls Tryz.prog 28 [.slice A xs.length c, .slice B xs.length d].toArray w (K.Gives (.bool true) w) := by
  have h := c19 (c := c) (d := d) hX hY hn hn
  rw [decide_eq_true rfl] at h
  exact h
theorem c33t {A B : Option Addr} {c d : Nat} {xs : List (Int × Int)} {w : World} (hX : K.Rd w A 2 K.eP xs) (hY : K.Rd w B 2 K.eP xs) (hn : xs.length ≤ 4611686018427387904) : Calls Tryz.prog 29 [.slice A xs.length c, .slice B xs.length d].toArray w (K.Gives (.bool true) w) := by
  have h := c33 (c := c) (d := d) hX hY hn hn
  rw [decide_eq_true rfl] at h
  exact h
theorem bs22_1 (a : Int) : K.Bs Tryz.prog 28 1 [(0, .int .i64 a)] 3 [.int .i64 a] := fun w => by kernel_rfl
theorem bs22_3 (a b c : Int) : K.Bs Tryz.prog 28 3 [(0, .int .i64 a), (1, .int .i64 b), (2, .int .i64 c)] 3 [.int .i64 a, .int .i64 b, .int .i64 c] := fun w => by kernel_rfl
theorem bs22_4 (a b c d : Int) : K.Bs Tryz.prog 28 4 [(0, .int .i64 a), (1, .int .i64 b), (2, .int .i64 c), (3, .int .i64 d)] 3 [.int .i64 a, .int .i64 b, .int .i64 c, .int .i64 d] := fun w => by kernel_rfl
theorem bs41_1 (a b c : Int) : K.Bs Tryz.prog 63 1 [(0, .agg #[.int .i64 a, .int .i64 b, .int .i64 c])] 61 [.int .i64 a, .int .i64 b, .int .i64 c] := fun w => by kernel_rfl
theorem bs42_3 (a b c d e f : Int) : K.Bs Tryz.prog 55 3 [(0, .agg #[.int .i64 a, .int .i64 b]), (1, .agg #[.int .i64 c, .int .i64 d]), (2, .agg #[.int .i64 e, .int .i64 f])] 42 [.int .i64 a, .int .i64 b, .int .i64 c, .int .i64 d, .int .i64 e, .int .i64 f] := fun w => by kernel_rfl
theorem bs42_6 (a b c d e f a2 b2 c2 d2 e2 f2 : Int) : K.Bs Tryz.prog 55 6 [(0, .agg #[.int .i64 a, .int .i64 b]), (1, .agg #[.int .i64 c, .int .i64 d]), (2, .agg #[.int .i64 e, .int .i64 f]), (3, .agg #[.int .i64 a2, .int .i64 b2]), (4, .agg #[.int .i64 c2, .int .i64 d2]), (5, .agg #[.int .i64 e2, .int .i64 f2])] 42 [.int .i64 a, .int .i64 b, .int .i64 c, .int .i64 d, .int .i64 e, .int .i64 f, .int .i64 a2, .int .i64 b2, .int .i64 c2, .int .i64 d2, .int .i64 e2, .int .i64 f2] := fun w => by kernel_rfl

theorem aw17 {A B : Option Addr} {c d : Nat} {w : World} (hH : K.Rd w A 1 K.eI caH) (hR : K.Rd w B 2 K.eP caR) : Calls Tryz.prog 11 [.agg #[.int .i64 2, .int .i64 100, .int .i64 50, .slice A caH.length c, .slice B caR.length d], .agg #[.int .i64 1, .int .i64 2]].toArray w (K.RetSE 3 1 K.eI [0, 5, 13, 30] 0 w) := by
  have h := c17 (A := A) (B := B) (c := c) (d := d) (kind := 2) (base := 100) (most := 50) (hs := caH) (rs := caR) (u := 1) (v := 2) (w := w) hH hR (by decide) (by decide)
  rw [a17.1, a17.2] at h
  exact h


theorem aw20 {A B : Option Addr} {c d : Nat} {w : World} (hH : K.Rd w A 1 K.eI caH) (hR : K.Rd w B 2 K.eP caR) : Calls Tryz.prog 20 [.agg #[.int .i64 2, .int .i64 100, .int .i64 50, .slice A caH.length c, .slice B caR.length d], .agg #[.int .i64 2, .int .i64 3]].toArray w (K.RetSE 3 1 K.eI [50, 0, 15] 0 w) := by
  have h := c20 (A := A) (B := B) (c := c) (d := d) (kind := 2) (base := 100) (most := 50) (hs := caH) (rs := caR) (u := 2) (v := 3) (w := w) hH hR (by decide) (by decide)
  rw [a20.1, a20.2] at h
  exact h


theorem aw22 {A B : Option Addr} {c d : Nat} {w : World} (hH : K.Rd w A 1 K.eI caH) (hR : K.Rd w B 2 K.eP caR) : Calls Tryz.prog 21 [.agg #[.int .i64 2, .int .i64 100, .int .i64 50, .slice A caH.length c, .slice B caR.length d], .agg #[.int .i64 1, .int .i64 30]].toArray w (K.RetSE 3 1 K.eI [0] 0 w) := by
  have h := c22 (A := A) (B := B) (c := c) (d := d) (kind := 2) (base := 100) (most := 50) (hs := caH) (rs := caR) (u := 1) (v := 30) (w := w) hH hR (by decide) (by decide)
  rw [a22.1, a22.2] at h
  exact h


theorem aw27 {A B : Option Addr} {c d : Nat} {w : World} (hH : K.Rd w A 1 K.eI caH) (hR : K.Rd w B 2 K.eP caR) : Calls Tryz.prog 22 [.agg #[.int .i64 2, .int .i64 100, .int .i64 50, .slice A caH.length c, .slice B caR.length d], .int .i64 47].toArray w (K.Gives (.tuple #[.agg #[.int .i64 5, .int .i64 6], .int .i64 0]) w) := by
  have h := c27 (A := A) (B := B) (c := c) (d := d) (kind := 2) (base := 100) (most := 50) (hs := caH) (rs := caR) (limit := 47) (w := w) hH hR (by decide) (by decide)
  rw [a27] at h
  exact h


theorem aw29 {A B : Option Addr} {c d : Nat} {w : World} (hH : K.Rd w A 1 K.eI caH) (hR : K.Rd w B 2 K.eP caR) : Calls Tryz.prog 23 [.agg #[.int .i64 2, .int .i64 100, .int .i64 50, .slice A caH.length c, .slice B caR.length d]].toArray w (K.Gives (.tuple #[.agg #[.int .i64 1, .int .i64 16], .int .i64 0]) w) := by
  have h := c29 (A := A) (B := B) (c := c) (d := d) (kind := 2) (base := 100) (most := 50) (hs := caH) (rs := caR)  (w := w) hH hR (by decide) (by decide)
  rw [a29] at h
  exact h


theorem aw31 {A B : Option Addr} {c d : Nat} {w : World} (hH : K.Rd w A 1 K.eI caH) (hR : K.Rd w B 2 K.eP caR) {M : Option Addr} {cm : Nat} (hM : K.Rd w M 3 K.eT [(3, 41, 41)]) : Calls Tryz.prog 24 [.agg #[.int .i64 2, .int .i64 100, .int .i64 50, .slice A caH.length c, .slice B caR.length d], .slice M 1 cm].toArray w (K.RetSE 42 2 K.eP [(19, 28), (17, 25), (15, 22), (13, 19), (11, 16), (20, 29)] 0 w) := by
  have h := c31 (A := A) (B := B) (c := c) (d := d) (kind := 2) (base := 100) (most := 50) (hs := caH) (rs := caR) (M := M) (cm := cm) (ms := [(3, 41, 41)]) (w := w) hH hR (by decide) (by decide) hM (by decide)
  rw [a31.1, a31.2] at h
  exact h


theorem aw24 {A B : Option Addr} {c d : Nat} {w : World} (hH : K.Rd w A 1 K.eI caH) (hR : K.Rd w B 2 K.eP caR) : Calls Tryz.prog 26 [.agg #[.int .i64 2, .int .i64 100, .int .i64 50, .slice A caH.length c, .slice B caR.length d], .agg #[.int .i64 1, .int .i64 2], .agg #[.int .i64 2, .int .i64 3]].toArray w (K.RetSE 3 1 K.eI [1, 2, 3] 0 w) := by
  have h := c24 (A := A) (B := B) (c := c) (d := d) (kind := 2) (base := 100) (most := 50) (hs := caH) (rs := caR) (u := 1) (v := 2) (u2 := 2) (v2 := 3) (w := w) hH hR (by decide) (by decide)
  rw [a24.1, a24.2] at h
  exact h


theorem aw34 {A B : Option Addr} {c d : Nat} {w : World} (hH : K.Rd w A 1 K.eI caH) (hR : K.Rd w B 2 K.eP caR) {C : Option Addr} {cc : Nat} (hS : K.Rd w C 2 K.eP [(1, 2), (3, 5), (2, 3)]) : Calls Tryz.prog 27 [.agg #[.int .i64 2, .int .i64 100, .int .i64 50, .slice A caH.length c, .slice B caR.length d], .slice C 3 cc].toArray w (K.RetSE 3 1 K.eI [1] 0 w) := by
  have h := c34 (A := A) (B := B) (c := c) (d := d) (kind := 2) (base := 100) (most := 50) (hs := caH) (rs := caR) (C := C) (cc := cc) (l := [(1, 2), (3, 5), (2, 3)]) (w := w) hH hR (by decide) (by decide) hS (by decide)
  rw [a34.1, a34.2] at h
  exact h


theorem aw34b {A B : Option Addr} {c d : Nat} {w : World} (hH : K.Rd w A 1 K.eI caH) (hR : K.Rd w B 2 K.eP caR) {C : Option Addr} {cc : Nat} (hS : K.Rd w C 2 K.eP [(19, 28), (17, 25)]) : Calls Tryz.prog 27 [.agg #[.int .i64 2, .int .i64 100, .int .i64 50, .slice A caH.length c, .slice B caR.length d], .slice C 2 cc].toArray w (K.RetSE 3 1 K.eI ([] : List Int) 5 w) := by
  have h := c34 (A := A) (B := B) (c := c) (d := d) (kind := 2) (base := 100) (most := 50) (hs := caH) (rs := caR) (C := C) (cc := cc) (l := [(19, 28), (17, 25)]) (w := w) hH hR (by decide) (by decide) hS (by decide)
  rw [a34b.1, a34b.2] at h
  exact h


set_option maxRecDepth 100000 in
theorem c26 (w : World) :
    Calls Tryz.prog 5 [].toArray w (K.Gives (.bool true) w) := by
  refine K.enter (args := []) Tryz.func5 rfl (n := 160) rfl ?_
  simp only [List.replicate, List.cons_append, List.nil_append]
  refine K.seq ?_
  refine K.region_lit ?_
  refine K.seq_pure (K.assign) rfl ?_
  refine Rv.zn ?_
  refine K.seq_nil ?_
  refine K.norm_then ?_
  refine K.seq ?_
  refine K.region_lit ?_
  refine K.seq_loud (K.call_f cal_18 (fun F w hF hw => c36 (kind := 2) w)) rfl ?_
  rintro ⟨bh, br⟩ _
  try dsimp only [setd, setn, ev, nth, over, cl, eI, eP, eT, List.map, List.append, List.drop, List.take]
  refine K.seq_new (K.alloc zr_38) rfl ?_
  intro b1
  try dsimp only [setd, setn, ev, nth, over, cl, eI, eP, eT, List.map, List.append, List.drop, List.take]
  refine K.seq_st (K.store_all sz_38 rfl rfl rfl rfl (K.rp0)) rfl ?_
  try dsimp only [setd, setn, ev, nth, over, cl, eI, eP, eT, List.map, List.append, List.drop, List.take]
  refine K.seq_nil ?_
  refine K.norm_then ?_
  refine K.seq ?_
  refine K.draw_L [] Tryz_mixed ?_
  refine K.d_mem 0 rfl (K.loadA_own ag_38 rfl (K.m0) rfl) (fun _ h => h) (by kernel_rfl) (by kernel_rfl) rfl ?_
  try dsimp only [setd, setn, ev, nth, over, cl, eI, eP, eT, List.map, List.append, List.drop, List.take]
  refine K.d_call 1 rfl (K.call_g cal_19 (fun F w hF hw => c37 w)) (fun _ h => h) (by kernel_rfl) rfl ?_
  try dsimp only [setd, setn, ev, nth, over, cl, eI, eP, eT, List.map, List.append, List.drop, List.take]
  refine K.d_loud 2 rfl (K.call_f cal_11 (fun F w hF hw => aw17 (K.Rd.lit hw (hF _ (K.m2)) (fun _ => rfl) (by decide) rfl) (K.Rd.lit hw (hF _ (K.m1)) (fun _ => rfl) (by decide) rfl))) (fun _ h => h) (by kernel_rfl) rfl ?_
  rintro ⟨A1, c1⟩ hA1
  try dsimp only [setd, setn, ev, nth, over, cl, eI, eP, eT, List.map, List.append, List.drop, List.take]
  refine K.d_pure 3 rfl (K.move) (by kernel_rfl) rfl ?_
  refine Rv.zn ?_
  refine K.d_pure 4 rfl (K.extract rfl rfl) (by kernel_rfl) rfl ?_
  refine Rv.zn ?_
  refine K.d_pure 5 rfl (K.extract rfl rfl) (by kernel_rfl) rfl ?_
  refine Rv.zn ?_
  refine K.d_pure 6 rfl (K.assign) (by kernel_rfl) rfl ?_
  refine Rv.zn ?_
  refine K.d_pure 7 rfl (K.assign) (by kernel_rfl) rfl ?_
  refine Rv.zn ?_
  refine K.d_done (by kernel_rfl) ?_
  refine K.norm_then ?_
  refine K.seq ?_
  refine K.draw_L [] Tryz_mixed ?_
  refine K.d_mem 0 rfl (K.loadA_own ag_38 rfl (K.m1) rfl) (fun _ h => h) (by kernel_rfl) (by kernel_rfl) rfl ?_
  try dsimp only [setd, setn, ev, nth, over, cl, eI, eP, eT, List.map, List.append, List.drop, List.take]
  refine K.d_call 1 rfl (K.call_g cal_19 (fun F w hF hw => c37 w)) (fun _ h => h) (by kernel_rfl) rfl ?_
  try dsimp only [setd, setn, ev, nth, over, cl, eI, eP, eT, List.map, List.append, List.drop, List.take]
  refine K.d_loud 2 rfl (K.call_f cal_20 (fun F w hF hw => aw20 (K.Rd.lit hw (hF _ (K.m3)) (fun _ => rfl) (by decide) rfl) (K.Rd.lit hw (hF _ (K.m2)) (fun _ => rfl) (by decide) rfl))) (fun _ h => h) (by kernel_rfl) rfl ?_
  rintro ⟨A2, c2⟩ hA2
  try dsimp only [setd, setn, ev, nth, over, cl, eI, eP, eT, List.map, List.append, List.drop, List.take]
  refine K.d_pure 3 rfl (K.move) (by kernel_rfl) rfl ?_
  refine Rv.zn ?_
  refine K.d_pure 4 rfl (K.extract rfl rfl) (by kernel_rfl) rfl ?_
  refine Rv.zn ?_
  refine K.d_pure 5 rfl (K.extract rfl rfl) (by kernel_rfl) rfl ?_
  refine Rv.zn ?_
  refine K.d_pure 6 rfl (K.assign) (by kernel_rfl) rfl ?_
  refine Rv.zn ?_
  refine K.d_pure 7 rfl (K.assign) (by kernel_rfl) rfl ?_
  refine Rv.zn ?_
  refine K.d_done (by kernel_rfl) ?_
  refine K.norm_then ?_
  refine K.seq ?_
  refine K.draw_L [] Tryz_mixed ?_
  refine K.d_mem 0 rfl (K.loadA_own ag_38 rfl (K.m2) rfl) (fun _ h => h) (by kernel_rfl) (by kernel_rfl) rfl ?_
  try dsimp only [setd, setn, ev, nth, over, cl, eI, eP, eT, List.map, List.append, List.drop, List.take]
  refine K.d_call 1 rfl (K.call_g cal_19 (fun F w hF hw => c37 w)) (fun _ h => h) (by kernel_rfl) rfl ?_
  try dsimp only [setd, setn, ev, nth, over, cl, eI, eP, eT, List.map, List.append, List.drop, List.take]
  refine K.d_loud 2 rfl (K.call_f cal_21 (fun F w hF hw => aw22 (K.Rd.lit hw (hF _ (K.m4)) (fun _ => rfl) (by decide) rfl) (K.Rd.lit hw (hF _ (K.m3)) (fun _ => rfl) (by decide) rfl))) (fun _ h => h) (by kernel_rfl) rfl ?_
  rintro ⟨A3, c3⟩ hA3
  try dsimp only [setd, setn, ev, nth, over, cl, eI, eP, eT, List.map, List.append, List.drop, List.take]
  refine K.d_pure 3 rfl (K.move) (by kernel_rfl) rfl ?_
  refine Rv.zn ?_
  refine K.d_pure 4 rfl (K.extract rfl rfl) (by kernel_rfl) rfl ?_
  refine Rv.zn ?_
  refine K.d_pure 5 rfl (K.extract rfl rfl) (by kernel_rfl) rfl ?_
  refine Rv.zn ?_
  refine K.d_pure 6 rfl (K.assign) (by kernel_rfl) rfl ?_
  refine Rv.zn ?_
  refine K.d_pure 7 rfl (K.assign) (by kernel_rfl) rfl ?_
  refine Rv.zn ?_
  refine K.d_done (by kernel_rfl) ?_
  refine K.norm_then ?_
  refine K.seq ?_
  refine K.region_lit ?_
  refine K.seq_sil (K.loadA_own ag_38 rfl (K.m3) rfl) rfl ?_
  try dsimp only [setd, setn, ev, nth, over, cl, eI, eP, eT, List.map, List.append, List.drop, List.take]
  refine K.seq_call (K.call_g cal_22 (fun F w hF hw => aw27 (K.Rd.lit hw (hF _ (K.m5)) (fun _ => rfl) (by decide) rfl) (K.Rd.lit hw (hF _ (K.m4)) (fun _ => rfl) (by decide) rfl))) rfl ?_
  try dsimp only [setd, setn, ev, nth, over, cl, eI, eP, eT, List.map, List.append, List.drop, List.take]
  refine K.seq_pure (K.move) rfl ?_
  refine Rv.zn ?_
  refine K.seq_pure (K.extract rfl rfl) rfl ?_
  refine Rv.zn ?_
  refine K.seq_pure (K.extract rfl rfl) rfl ?_
  refine Rv.zn ?_
  refine K.seq_new (K.alloc zr_42) rfl ?_
  intro b8
  try dsimp only [setd, setn, ev, nth, over, cl, eI, eP, eT, List.map, List.append, List.drop, List.take]
  refine K.seq_st (K.store_all sz_42 rfl rfl rfl rfl (K.rp0)) rfl ?_
  try dsimp only [setd, setn, ev, nth, over, cl, eI, eP, eT, List.map, List.append, List.drop, List.take]
  refine K.seq_pure (K.assign) rfl ?_
  refine Rv.zn ?_
  refine K.seq_nil ?_
  refine K.norm_then ?_
  refine K.seq ?_
  refine K.region_lit ?_
  refine K.seq_sil (K.loadA_own ag_38 rfl (K.m4) rfl) rfl ?_
  try dsimp only [setd, setn, ev, nth, over, cl, eI, eP, eT, List.map, List.append, List.drop, List.take]
  refine K.seq_call (K.call_g cal_23 (fun F w hF hw => aw29 (K.Rd.lit hw (hF _ (K.m6)) (fun _ => rfl) (by decide) rfl) (K.Rd.lit hw (hF _ (K.m5)) (fun _ => rfl) (by decide) rfl))) rfl ?_
  try dsimp only [setd, setn, ev, nth, over, cl, eI, eP, eT, List.map, List.append, List.drop, List.take]
  refine K.seq_pure (K.move) rfl ?_
  refine Rv.zn ?_
  refine K.seq_pure (K.extract rfl rfl) rfl ?_
  refine Rv.zn ?_
  refine K.seq_pure (K.extract rfl rfl) rfl ?_
  refine Rv.zn ?_
  refine K.seq_new (K.alloc zr_42) rfl ?_
  intro b10
  try dsimp only [setd, setn, ev, nth, over, cl, eI, eP, eT, List.map, List.append, List.drop, List.take]
  refine K.seq_st (K.store_all sz_42 rfl rfl rfl rfl (K.rp0)) rfl ?_
  try dsimp only [setd, setn, ev, nth, over, cl, eI, eP, eT, List.map, List.append, List.drop, List.take]
  refine K.seq_pure (K.assign) rfl ?_
  refine Rv.zn ?_
  refine K.seq_nil ?_
  refine K.norm_then ?_
  refine K.seq ?_
  refine K.draw_L [] Tryz_mixed ?_
  refine K.d_mem 0 rfl (K.loadA_own ag_38 rfl (K.m5) rfl) (fun _ h => h) (by kernel_rfl) (by kernel_rfl) rfl ?_
  try dsimp only [setd, setn, ev, nth, over, cl, eI, eP, eT, List.map, List.append, List.drop, List.take]
  refine K.d_call 1 rfl (K.call_g cal_25 (fun F w hF hw => c38 w)) (fun _ h => h) (by kernel_rfl) rfl ?_
  try dsimp only [setd, setn, ev, nth, over, cl, eI, eP, eT, List.map, List.append, List.drop, List.take]
  refine K.d_new 2 rfl (K.buildSlice (bs41_1 _ _ _)) (fun _ h => h) (by kernel_rfl) rfl ?_
  intro b52
  try dsimp only [setd, setn, ev, nth, over, cl, eI, eP, eT, List.map, List.append, List.drop, List.take]
  refine K.d_loud 3 rfl (K.call_f cal_24 (fun F w hF hw => aw31 (K.Rd.lit hw (hF _ (K.m8)) (fun _ => rfl) (by decide) rfl) (K.Rd.lit hw (hF _ (K.m7)) (fun _ => rfl) (by decide) rfl) (K.Rd.lit hw (hF _ (K.m0)) (fun _ => rfl) (by decide) rfl))) (fun _ h => K.tl h) (by kernel_rfl) rfl ?_
  rintro ⟨A4, c4⟩ hA4
  try dsimp only [setd, setn, ev, nth, over, cl, eI, eP, eT, List.map, List.append, List.drop, List.take]
  refine K.d_pure 4 rfl (K.move) (by kernel_rfl) rfl ?_
  refine Rv.zn ?_
  refine K.d_pure 5 rfl (K.extract rfl rfl) (by kernel_rfl) rfl ?_
  refine Rv.zn ?_
  refine K.d_pure 6 rfl (K.extract rfl rfl) (by kernel_rfl) rfl ?_
  refine Rv.zn ?_
  refine K.d_pure 7 rfl (K.assign) (by kernel_rfl) rfl ?_
  refine Rv.zn ?_
  refine K.d_pure 8 rfl (K.assign) (by kernel_rfl) rfl ?_
  refine Rv.zn ?_
  refine K.d_done (by kernel_rfl) ?_
  refine K.norm_then ?_
  refine K.seq ?_
  refine K.draw_L [] Tryz_mixed ?_
  refine K.d_mem 0 rfl (K.loadA_own ag_38 rfl (K.m7) rfl) (fun _ h => h) (by kernel_rfl) (by kernel_rfl) rfl ?_
  try dsimp only [setd, setn, ev, nth, over, cl, eI, eP, eT, List.map, List.append, List.drop, List.take]
  refine K.d_call 1 rfl (K.call_g cal_19 (fun F w hF hw => c37 w)) (fun _ h => h) (by kernel_rfl) rfl ?_
  try dsimp only [setd, setn, ev, nth, over, cl, eI, eP, eT, List.map, List.append, List.drop, List.take]
  refine K.d_call 2 rfl (K.call_g cal_19 (fun F w hF hw => c37 w)) (fun _ h => h) (by kernel_rfl) rfl ?_
  try dsimp only [setd, setn, ev, nth, over, cl, eI, eP, eT, List.map, List.append, List.drop, List.take]
  refine K.d_loud 3 rfl (K.call_f cal_26 (fun F w hF hw => aw24 (K.Rd.lit hw (hF _ (K.m9)) (fun _ => rfl) (by decide) rfl) (K.Rd.lit hw (hF _ (K.m8)) (fun _ => rfl) (by decide) rfl))) (fun _ h => h) (by kernel_rfl) rfl ?_
  rintro ⟨A5, c5⟩ hA5
  try dsimp only [setd, setn, ev, nth, over, cl, eI, eP, eT, List.map, List.append, List.drop, List.take]
  refine K.d_pure 4 rfl (K.move) (by kernel_rfl) rfl ?_
  refine Rv.zn ?_
  refine K.d_pure 5 rfl (K.extract rfl rfl) (by kernel_rfl) rfl ?_
  refine Rv.zn ?_
  refine K.d_pure 6 rfl (K.extract rfl rfl) (by kernel_rfl) rfl ?_
  refine Rv.zn ?_
  refine K.d_pure 7 rfl (K.assign) (by kernel_rfl) rfl ?_
  refine Rv.zn ?_
  refine K.d_pure 8 rfl (K.assign) (by kernel_rfl) rfl ?_
  refine Rv.zn ?_
  refine K.d_done (by kernel_rfl) ?_
  refine K.norm_then ?_
  refine K.seq ?_
  refine K.draw_L [] Tryz_mixed ?_
  refine K.d_mem 0 rfl (K.loadA_own ag_38 rfl (K.m8) rfl) (fun _ h => h) (by kernel_rfl) (by kernel_rfl) rfl ?_
  try dsimp only [setd, setn, ev, nth, over, cl, eI, eP, eT, List.map, List.append, List.drop, List.take]
  refine K.d_call 1 rfl (K.call_g cal_19 (fun F w hF hw => c37 w)) (fun _ h => h) (by kernel_rfl) rfl ?_
  try dsimp only [setd, setn, ev, nth, over, cl, eI, eP, eT, List.map, List.append, List.drop, List.take]
  refine K.d_call 2 rfl (K.call_g cal_19 (fun F w hF hw => c37 w)) (fun _ h => h) (by kernel_rfl) rfl ?_
  try dsimp only [setd, setn, ev, nth, over, cl, eI, eP, eT, List.map, List.append, List.drop, List.take]
  refine K.d_call 3 rfl (K.call_g cal_19 (fun F w hF hw => c37 w)) (fun _ h => h) (by kernel_rfl) rfl ?_
  try dsimp only [setd, setn, ev, nth, over, cl, eI, eP, eT, List.map, List.append, List.drop, List.take]
  refine K.d_new 4 rfl (K.buildSlice (bs42_3 _ _ _ _ _ _)) (fun _ h => h) (by kernel_rfl) rfl ?_
  intro b68
  try dsimp only [setd, setn, ev, nth, over, cl, eI, eP, eT, List.map, List.append, List.drop, List.take]
  refine K.d_loud 5 rfl (K.call_f cal_27 (fun F w hF hw => aw34 (K.Rd.lit hw (hF _ (K.m11)) (fun _ => rfl) (by decide) rfl) (K.Rd.lit hw (hF _ (K.m10)) (fun _ => rfl) (by decide) rfl) (K.Rd.lit hw (hF _ (K.m0)) (fun _ => rfl) (by decide) rfl))) (fun _ h => K.tl h) (by kernel_rfl) rfl ?_
  rintro ⟨A6, c6⟩ hA6
  try dsimp only [setd, setn, ev, nth, over, cl, eI, eP, eT, List.map, List.append, List.drop, List.take]
  refine K.d_pure 6 rfl (K.move) (by kernel_rfl) rfl ?_
  refine Rv.zn ?_
  refine K.d_pure 7 rfl (K.extract rfl rfl) (by kernel_rfl) rfl ?_
  refine Rv.zn ?_
  refine K.d_pure 8 rfl (K.extract rfl rfl) (by kernel_rfl) rfl ?_
  refine Rv.zn ?_
  refine K.d_pure 9 rfl (K.assign) (by kernel_rfl) rfl ?_
  refine Rv.zn ?_
  refine K.d_pure 10 rfl (K.assign) (by kernel_rfl) rfl ?_
  refine Rv.zn ?_
  refine K.d_done (by kernel_rfl) ?_
  refine K.norm_then ?_
  refine K.seq ?_
  refine K.draw_L [] Tryz_mixed ?_
  refine K.d_mem 0 rfl (K.loadA_own ag_38 rfl (K.m10) rfl) (fun _ h => h) (by kernel_rfl) (by kernel_rfl) rfl ?_
  try dsimp only [setd, setn, ev, nth, over, cl, eI, eP, eT, List.map, List.append, List.drop, List.take]
  refine K.d_call 1 rfl (K.call_g cal_19 (fun F w hF hw => c37 w)) (fun _ h => h) (by kernel_rfl) rfl ?_
  try dsimp only [setd, setn, ev, nth, over, cl, eI, eP, eT, List.map, List.append, List.drop, List.take]
  refine K.d_call 2 rfl (K.call_g cal_19 (fun F w hF hw => c37 w)) (fun _ h => h) (by kernel_rfl) rfl ?_
  try dsimp only [setd, setn, ev, nth, over, cl, eI, eP, eT, List.map, List.append, List.drop, List.take]
  refine K.d_new 3 rfl (K.buildSlice (bs27_2 _ _ _ _)) (fun _ h => h) (by kernel_rfl) rfl ?_
  intro b76
  try dsimp only [setd, setn, ev, nth, over, cl, eI, eP, eT, List.map, List.append, List.drop, List.take]
  refine K.d_loud 4 rfl (K.call_f cal_27 (fun F w hF hw => aw34b (K.Rd.lit hw (hF _ (K.m13)) (fun _ => rfl) (by decide) rfl) (K.Rd.lit hw (hF _ (K.m12)) (fun _ => rfl) (by decide) rfl) (K.Rd.lit hw (hF _ (K.m0)) (fun _ => rfl) (by decide) rfl))) (fun _ h => K.tl h) (by kernel_rfl) rfl ?_
  rintro ⟨A7, c7⟩ hA7
  try dsimp only [setd, setn, ev, nth, over, cl, eI, eP, eT, List.map, List.append, List.drop, List.take]
  refine K.d_pure 5 rfl (K.move) (by kernel_rfl) rfl ?_
  refine Rv.zn ?_
  refine K.d_pure 6 rfl (K.extract rfl rfl) (by kernel_rfl) rfl ?_
  refine Rv.zn ?_
  refine K.d_pure 7 rfl (K.extract rfl rfl) (by kernel_rfl) rfl ?_
  refine Rv.zn ?_
  refine K.d_pure 8 rfl (K.assign) (by kernel_rfl) rfl ?_
  refine Rv.zn ?_
  refine K.d_pure 9 rfl (K.assign) (by kernel_rfl) rfl ?_
  refine Rv.zn ?_
  refine K.d_done (by kernel_rfl) ?_
  refine K.norm_then ?_
  refine K.seq ?_
  refine K.draw_L [] Tryz_mixed ?_
  refine K.d_pure 0 rfl (K.move) (by kernel_rfl) rfl ?_
  refine Rv.zn ?_
  refine K.d_pure 1 rfl (K.Pure.eq (K.eql rfl rfl) (show _ = Value.bool true from rfl)) (by kernel_rfl) rfl ?_
  refine Rv.zn ?_
  refine K.d_pure 2 rfl (K.move) (by kernel_rfl) rfl ?_
  refine Rv.zn ?_
  refine K.d_pure 3 rfl (K.move) (by kernel_rfl) rfl ?_
  refine Rv.zn ?_
  refine K.d_pure 4 rfl (K.Pure.eq (K.eql rfl rfl) (show _ = Value.bool true from rfl)) (by kernel_rfl) rfl ?_
  refine Rv.zn ?_
  refine K.d_pure 5 rfl (K.pick_t rfl) (by kernel_rfl) rfl ?_
  refine Rv.zn ?_
  refine K.d_pure 6 rfl (K.move) (by kernel_rfl) rfl ?_
  refine Rv.zn ?_
  refine K.d_pure 7 rfl (K.move) (by kernel_rfl) rfl ?_
  refine Rv.zn ?_
  refine K.d_pure 8 rfl (K.Pure.eq (K.eql rfl rfl) (show _ = Value.bool true from rfl)) (by kernel_rfl) rfl ?_
  refine Rv.zn ?_
  refine K.d_pure 9 rfl (K.pick_t rfl) (by kernel_rfl) rfl ?_
  refine Rv.zn ?_
  refine K.d_pure 10 rfl (K.move) (by kernel_rfl) rfl ?_
  refine Rv.zn ?_
  refine K.d_pure 11 rfl (K.move) (by kernel_rfl) rfl ?_
  refine Rv.zn ?_
  refine K.d_pure 12 rfl (K.Pure.eq (K.eql rfl rfl) (show _ = Value.bool true from rfl)) (by kernel_rfl) rfl ?_
  refine Rv.zn ?_
  refine K.d_pure 13 rfl (K.pick_t rfl) (by kernel_rfl) rfl ?_
  refine Rv.zn ?_
  refine K.d_pure 14 rfl (K.move) (by kernel_rfl) rfl ?_
  refine Rv.zn ?_
  refine K.d_pure 15 rfl (K.move) (by kernel_rfl) rfl ?_
  refine Rv.zn ?_
  refine K.d_pure 16 rfl (K.Pure.eq (K.eql rfl rfl) (show _ = Value.bool true from rfl)) (by kernel_rfl) rfl ?_
  refine Rv.zn ?_
  refine K.d_pure 17 rfl (K.pick_t rfl) (by kernel_rfl) rfl ?_
  refine Rv.zn ?_
  refine K.d_pure 18 rfl (K.move) (by kernel_rfl) rfl ?_
  refine Rv.zn ?_
  refine K.d_pure 19 rfl (K.move) (by kernel_rfl) rfl ?_
  refine Rv.zn ?_
  refine K.d_pure 20 rfl (K.Pure.eq (K.eql rfl rfl) (show _ = Value.bool true from rfl)) (by kernel_rfl) rfl ?_
  refine Rv.zn ?_
  refine K.d_pure 21 rfl (K.pick_t rfl) (by kernel_rfl) rfl ?_
  refine Rv.zn ?_
  refine K.d_pure 22 rfl (K.move) (by kernel_rfl) rfl ?_
  refine Rv.zn ?_
  refine K.d_pure 23 rfl (K.move) (by kernel_rfl) rfl ?_
  refine Rv.zn ?_
  refine K.d_pure 24 rfl (K.Pure.eq (K.eql rfl rfl) (show _ = Value.bool true from rfl)) (by kernel_rfl) rfl ?_
  refine Rv.zn ?_
  refine K.d_pure 25 rfl (K.pick_t rfl) (by kernel_rfl) rfl ?_
  refine Rv.zn ?_
  refine K.d_pure 26 rfl (K.move) (by kernel_rfl) rfl ?_
  refine Rv.zn ?_
  refine K.d_pure 27 rfl (K.move) (by kernel_rfl) rfl ?_
  refine Rv.zn ?_
  refine K.d_pure 28 rfl (K.Pure.eq (K.eql rfl rfl) (show _ = Value.bool true from rfl)) (by kernel_rfl) rfl ?_
  refine Rv.zn ?_
  refine K.d_pure 29 rfl (K.pick_t rfl) (by kernel_rfl) rfl ?_
  refine Rv.zn ?_
  refine K.d_pure 30 rfl (K.move) (by kernel_rfl) rfl ?_
  refine Rv.zn ?_
  refine K.d_pure 31 rfl (K.move) (by kernel_rfl) rfl ?_
  refine Rv.zn ?_
  refine K.d_pure 32 rfl (K.Pure.eq (K.eql rfl rfl) (show _ = Value.bool true from rfl)) (by kernel_rfl) rfl ?_
  refine Rv.zn ?_
  refine K.d_pure 33 rfl (K.pick_t rfl) (by kernel_rfl) rfl ?_
  refine Rv.zn ?_
  refine K.d_pure 34 rfl (K.move) (by kernel_rfl) rfl ?_
  refine Rv.zn ?_
  refine K.d_pure 35 rfl (K.move) (by kernel_rfl) rfl ?_
  refine Rv.zn ?_
  refine K.d_new 36 rfl (K.buildSlice (bs22_4 _ _ _ _)) (fun _ h => h) (by kernel_rfl) rfl ?_
  intro b116
  try dsimp only [setd, setn, ev, nth, over, cl, eI, eP, eT, List.map, List.append, List.drop, List.take]
  refine K.d_call 37 rfl (K.call_g cal_28 (fun F w hF hw => c19t (xs := [0, 5, 13, 30]) (K.Rd.own hw (hF _ (K.m12)) hA1 (fun _ => rfl) (by decide)) (K.Rd.lit hw (hF _ (K.m0)) (fun _ => rfl) (by decide) rfl) (by decide))) (fun _ h => K.tl h) (by kernel_rfl) rfl ?_
  try dsimp only [setd, setn, ev, nth, over, cl, eI, eP, eT, List.map, List.append, List.drop, List.take]
  refine K.d_pure 38 rfl (K.pick_t rfl) (by kernel_rfl) rfl ?_
  refine Rv.zn ?_
  refine K.d_pure 39 rfl (K.move) (by kernel_rfl) rfl ?_
  refine Rv.zn ?_
  refine K.d_pure 40 rfl (K.move) (by kernel_rfl) rfl ?_
  refine Rv.zn ?_
  refine K.d_new 41 rfl (K.buildSlice (bs22_3 _ _ _)) (fun _ h => K.tl h) (by kernel_rfl) rfl ?_
  intro b121
  try dsimp only [setd, setn, ev, nth, over, cl, eI, eP, eT, List.map, List.append, List.drop, List.take]
  refine K.d_call 42 rfl (K.call_g cal_28 (fun F w hF hw => c19t (xs := [50, 0, 15]) (K.Rd.own hw (hF _ (K.m12)) hA2 (fun _ => rfl) (by decide)) (K.Rd.lit hw (hF _ (K.m0)) (fun _ => rfl) (by decide) rfl) (by decide))) (fun _ h => K.tl (K.tl h)) (by kernel_rfl) rfl ?_
  try dsimp only [setd, setn, ev, nth, over, cl, eI, eP, eT, List.map, List.append, List.drop, List.take]
  refine K.d_pure 43 rfl (K.pick_t rfl) (by kernel_rfl) rfl ?_
  refine Rv.zn ?_
  refine K.d_pure 44 rfl (K.move) (by kernel_rfl) rfl ?_
  refine Rv.zn ?_
  refine K.d_pure 45 rfl (K.move) (by kernel_rfl) rfl ?_
  refine Rv.zn ?_
  refine K.d_new 46 rfl (K.buildSlice (bs22_1 _)) (fun _ h => K.tl (K.tl h)) (by kernel_rfl) rfl ?_
  intro b126
  try dsimp only [setd, setn, ev, nth, over, cl, eI, eP, eT, List.map, List.append, List.drop, List.take]
  refine K.d_call 47 rfl (K.call_g cal_28 (fun F w hF hw => c19t (xs := [0]) (K.Rd.own hw (hF _ (K.m12)) hA3 (fun _ => rfl) (by decide)) (K.Rd.lit hw (hF _ (K.m0)) (fun _ => rfl) (by decide) rfl) (by decide))) (fun _ h => K.tl (K.tl (K.tl h))) (by kernel_rfl) rfl ?_
  try dsimp only [setd, setn, ev, nth, over, cl, eI, eP, eT, List.map, List.append, List.drop, List.take]
  refine K.d_pure 48 rfl (K.pick_t rfl) (by kernel_rfl) rfl ?_
  refine Rv.zn ?_
  refine K.d_pure 49 rfl (K.move) (by kernel_rfl) rfl ?_
  refine Rv.zn ?_
  refine K.d_mem 50 rfl (K.loadA_own ag_42 rfl (K.m8) rfl) (fun _ h => K.tl (K.tl (K.tl h))) (by kernel_rfl) (by kernel_rfl) rfl ?_
  try dsimp only [setd, setn, ev, nth, over, cl, eI, eP, eT, List.map, List.append, List.drop, List.take]
  refine K.d_call 51 rfl (K.call_g cal_19 (fun F w hF hw => c37 w)) (fun _ h => K.tl (K.tl (K.tl h))) (by kernel_rfl) rfl ?_
  try dsimp only [setd, setn, ev, nth, over, cl, eI, eP, eT, List.map, List.append, List.drop, List.take]
  refine K.d_pure 52 rfl (K.Pure.eq (K.eql_s2 s2_27 rfl rfl) (show _ = Value.bool true from congrArg Value.bool (decide_eq_true rfl))) (by kernel_rfl) rfl ?_
  refine Rv.zn ?_
  refine K.d_pure 53 rfl (K.pick_t rfl) (by kernel_rfl) rfl ?_
  refine Rv.zn ?_
  refine K.d_pure 54 rfl (K.move) (by kernel_rfl) rfl ?_
  refine Rv.zn ?_
  refine K.d_mem 55 rfl (K.loadA_own ag_42 rfl (K.m7) rfl) (fun _ h => K.tl (K.tl (K.tl h))) (by kernel_rfl) (by kernel_rfl) rfl ?_
  try dsimp only [setd, setn, ev, nth, over, cl, eI, eP, eT, List.map, List.append, List.drop, List.take]
  refine K.d_call 56 rfl (K.call_g cal_19 (fun F w hF hw => c37 w)) (fun _ h => K.tl (K.tl (K.tl h))) (by kernel_rfl) rfl ?_
  try dsimp only [setd, setn, ev, nth, over, cl, eI, eP, eT, List.map, List.append, List.drop, List.take]
  refine K.d_pure 57 rfl (K.Pure.eq (K.eql_s2 s2_27 rfl rfl) (show _ = Value.bool true from congrArg Value.bool (decide_eq_true rfl))) (by kernel_rfl) rfl ?_
  refine Rv.zn ?_
  refine K.d_pure 58 rfl (K.pick_t rfl) (by kernel_rfl) rfl ?_
  refine Rv.zn ?_
  refine K.d_pure 59 rfl (K.move) (by kernel_rfl) rfl ?_
  refine Rv.zn ?_
  refine K.d_pure 60 rfl (K.move) (by kernel_rfl) rfl ?_
  refine Rv.zn ?_
  refine K.d_call 61 rfl (K.call_g cal_19 (fun F w hF hw => c37 w)) (fun _ h => K.tl (K.tl (K.tl h))) (by kernel_rfl) rfl ?_
  try dsimp only [setd, setn, ev, nth, over, cl, eI, eP, eT, List.map, List.append, List.drop, List.take]
  refine K.d_call 62 rfl (K.call_g cal_19 (fun F w hF hw => c37 w)) (fun _ h => K.tl (K.tl (K.tl h))) (by kernel_rfl) rfl ?_
  try dsimp only [setd, setn, ev, nth, over, cl, eI, eP, eT, List.map, List.append, List.drop, List.take]
  refine K.d_call 63 rfl (K.call_g cal_19 (fun F w hF hw => c37 w)) (fun _ h => K.tl (K.tl (K.tl h))) (by kernel_rfl) rfl ?_
  try dsimp only [setd, setn, ev, nth, over, cl, eI, eP, eT, List.map, List.append, List.drop, List.take]
  refine K.d_call 64 rfl (K.call_g cal_19 (fun F w hF hw => c37 w)) (fun _ h => K.tl (K.tl (K.tl h))) (by kernel_rfl) rfl ?_
  try dsimp only [setd, setn, ev, nth, over, cl, eI, eP, eT, List.map, List.append, List.drop, List.take]
  refine K.d_call 65 rfl (K.call_g cal_19 (fun F w hF hw => c37 w)) (fun _ h => K.tl (K.tl (K.tl h))) (by kernel_rfl) rfl ?_
  try dsimp only [setd, setn, ev, nth, over, cl, eI, eP, eT, List.map, List.append, List.drop, List.take]
  refine K.d_call 66 rfl (K.call_g cal_19 (fun F w hF hw => c37 w)) (fun _ h => K.tl (K.tl (K.tl h))) (by kernel_rfl) rfl ?_
  try dsimp only [setd, setn, ev, nth, over, cl, eI, eP, eT, List.map, List.append, List.drop, List.take]
  refine K.d_new 67 rfl (K.buildSlice (bs42_6 _ _ _ _ _ _ _ _ _ _ _ _)) (fun _ h => K.tl (K.tl (K.tl h))) (by kernel_rfl) rfl ?_
  intro b147
  try dsimp only [setd, setn, ev, nth, over, cl, eI, eP, eT, List.map, List.append, List.drop, List.take]
  refine K.d_call 68 rfl (K.call_g cal_29 (fun F w hF hw => c33t (xs := [(19, 28), (17, 25), (15, 22), (13, 19), (11, 16), (20, 29)]) (K.Rd.own hw (hF _ (K.m9)) hA4 (fun _ => rfl) (by decide)) (K.Rd.lit hw (hF _ (K.m0)) (fun _ => rfl) (by decide) rfl) (by decide))) (fun _ h => K.tl (K.tl (K.tl (K.tl h)))) (by kernel_rfl) rfl ?_
  try dsimp only [setd, setn, ev, nth, over, cl, eI, eP, eT, List.map, List.append, List.drop, List.take]
  refine K.d_pure 69 rfl (K.pick_t rfl) (by kernel_rfl) rfl ?_
  refine Rv.zn ?_
  refine K.d_pure 70 rfl (K.move) (by kernel_rfl) rfl ?_
  refine Rv.zn ?_
  refine K.d_pure 71 rfl (K.move) (by kernel_rfl) rfl ?_
  refine Rv.zn ?_
  refine K.d_new 72 rfl (K.buildSlice (bs22_3 _ _ _)) (fun _ h => K.tl (K.tl (K.tl (K.tl h)))) (by kernel_rfl) rfl ?_
  intro b152
  try dsimp only [setd, setn, ev, nth, over, cl, eI, eP, eT, List.map, List.append, List.drop, List.take]
  refine K.d_call 73 rfl (K.call_g cal_28 (fun F w hF hw => c19t (xs := [1, 2, 3]) (K.Rd.own hw (hF _ (K.m9)) hA5 (fun _ => rfl) (by decide)) (K.Rd.lit hw (hF _ (K.m0)) (fun _ => rfl) (by decide) rfl) (by decide))) (fun _ h => K.tl (K.tl (K.tl (K.tl (K.tl h))))) (by kernel_rfl) rfl ?_
  try dsimp only [setd, setn, ev, nth, over, cl, eI, eP, eT, List.map, List.append, List.drop, List.take]
  refine K.d_pure 74 rfl (K.pick_t rfl) (by kernel_rfl) rfl ?_
  refine Rv.zn ?_
  refine K.d_pure 75 rfl (K.move) (by kernel_rfl) rfl ?_
  refine Rv.zn ?_
  refine K.d_pure 76 rfl (K.move) (by kernel_rfl) rfl ?_
  refine Rv.zn ?_
  refine K.d_new 77 rfl (K.buildSlice (bs22_1 _)) (fun _ h => K.tl (K.tl (K.tl (K.tl (K.tl h))))) (by kernel_rfl) rfl ?_
  intro b157
  try dsimp only [setd, setn, ev, nth, over, cl, eI, eP, eT, List.map, List.append, List.drop, List.take]
  refine K.d_call 78 rfl (K.call_g cal_28 (fun F w hF hw => c19t (xs := [1]) (K.Rd.own hw (hF _ (K.m8)) hA6 (fun _ => rfl) (by decide)) (K.Rd.lit hw (hF _ (K.m0)) (fun _ => rfl) (by decide) rfl) (by decide))) (fun _ h => K.tl (K.tl (K.tl (K.tl (K.tl (K.tl h)))))) (by kernel_rfl) rfl ?_
  try dsimp only [setd, setn, ev, nth, over, cl, eI, eP, eT, List.map, List.append, List.drop, List.take]
  refine K.d_pure 79 rfl (K.pick_t rfl) (by kernel_rfl) rfl ?_
  refine Rv.zn ?_
  refine K.d_pure 80 rfl (K.assign) (by kernel_rfl) rfl ?_
  refine Rv.zn ?_
  refine K.d_done (by kernel_rfl) ?_
  refine K.norm_then ?_
  refine K.ret ?_
  refine K.end_ret (fun w _ => K.res_tmp rfl w) ?_
  exact K.gives rfl

end Go.Proofs.YtekkpcpbnonkaaaGreatDoor.Sc
end
section
set_option linter.unusedSimpArgs false
set_option linter.unusedVariables false
namespace Go.Proofs.YtekkpcpbnonkaaaGreatDoor.Sc
open Go.RowKit Go
open Go.K (setd setn ev nth over cl eI eP eT setM setF)
attribute [local irreducible] K.blk K.row
theorem wrap8 {a : Int} (h : 0 ≤ a ∧ a ≤ 255) : IntKind.i64.wrap a = a := IntWalk.i64_in _ (by omega)

set_option maxRecDepth 100000 in
theorem c40 {a b : Int} (ha : 0 ≤ a ∧ a ≤ 255) (hb : 0 ≤ b ∧ b ≤ 255) (w : World) :
    Calls Tryz.prog 12 [.agg #[.int .u8 a, .int .u8 b]].toArray w (K.Ret (fun r : Int × Int => scE r.1 r.2 = 0) (fun r => .agg #[.int .i64 r.1, .int .i64 r.2]) (fun _ => []) w) := by
  refine K.enter (args := [.agg #[.int .u8 a, .int .u8 b]]) Tryz.func12 rfl (n := 41) rfl ?_
  simp only [List.replicate, List.cons_append, List.nil_append]
  refine K.seq ?_
  refine K.region_lit ?_
  refine K.seq_new (K.box) rfl ?_
  intro b1
  try dsimp only [setd, setn, ev, nth, over, cl, eI, eP, eT, List.map, List.append, List.drop, List.take]
  refine K.seq_new (K.alloc zr_42) rfl ?_
  intro b2
  try dsimp only [setd, setn, ev, nth, over, cl, eI, eP, eT, List.map, List.append, List.drop, List.take]
  refine K.seq_nil ?_
  refine K.norm_then ?_
  refine K.seq ?_
  refine K.region_lit ?_
  refine K.seq_pure (K.indexAddr_ar ar_23 rfl rfl (by omega) (by omega)) rfl ?_
  try dsimp only [setd, setn, ev, nth, over, cl, eI, eP, eT, List.map, List.append, List.drop, List.take]
  refine K.seq_sil (K.load1_own one_5 rfl (K.m1) rfl) rfl ?_
  try dsimp only [setd, setn, ev, nth, over, cl, eI, eP, eT, List.map, List.append, List.drop, List.take]
  refine K.seq_pure (K.Pure.eq (K.conv_int ik_5 ik_3 rfl) (by rw [wrap8 ha])) rfl ?_
  try dsimp only [setd, setn, ev, nth, over, cl, eI, eP, eT, List.map, List.append, List.drop, List.take]
  refine K.seq_pure (K.rem_i64 rfl rfl (by omega) (by omega)) rfl ?_
  refine Rv.zn ?_
  refine K.seq_pure (K.add_i64 rfl rfl (by omega)) rfl ?_
  refine Rv.zn ?_
  refine K.seq_pure (K.indexAddr_ar ar_23 rfl rfl (by omega) (by omega)) rfl ?_
  try dsimp only [setd, setn, ev, nth, over, cl, eI, eP, eT, List.map, List.append, List.drop, List.take]
  refine K.seq_sil (K.load1_own one_5 rfl (K.m1) rfl) rfl ?_
  try dsimp only [setd, setn, ev, nth, over, cl, eI, eP, eT, List.map, List.append, List.drop, List.take]
  refine K.seq_pure (K.Pure.eq (K.conv_int ik_5 ik_3 rfl) (by rw [wrap8 hb])) rfl ?_
  try dsimp only [setd, setn, ev, nth, over, cl, eI, eP, eT, List.map, List.append, List.drop, List.take]
  refine K.seq_pure (K.rem_i64 rfl rfl (by omega) (by omega)) rfl ?_
  refine Rv.zn ?_
  refine K.seq_pure (K.add_i64 rfl rfl (by omega)) rfl ?_
  refine Rv.zn ?_
  refine K.seq_call (K.call_g cal_19 (fun F w hF hw => c37 w)) rfl ?_
  try dsimp only [setd, setn, ev, nth, over, cl, eI, eP, eT, List.map, List.append, List.drop, List.take]
  refine K.seq_new (K.alloc zr_42) rfl ?_
  intro b3
  try dsimp only [setd, setn, ev, nth, over, cl, eI, eP, eT, List.map, List.append, List.drop, List.take]
  refine K.seq_st (K.store_all sz_42 rfl rfl rfl rfl (K.rp0)) rfl ?_
  try dsimp only [setd, setn, ev, nth, over, cl, eI, eP, eT, List.map, List.append, List.drop, List.take]
  refine K.seq_nil ?_
  refine K.norm_then ?_
  refine K.seq ?_
  refine K.seq ?_
  refine K.region_lit ?_
  refine K.seq_pure (K.assign) rfl ?_
  refine Rv.zn ?_
  refine K.seq_nil ?_
  refine K.norm_then ?_
  refine K.block ?_
  refine K.loopW [4] [16, 17, 18, 19, 20, 21, 22, 23, 24, 25, 26, 27, 28, 29, 30, 31, 32, 33, 34, 35, 36, 37, 38, 39, 40] (fun vi L => ∃ (n u v : Int), vi = [.int .i64 n] ∧ L = [K.blk b3 42 [.int .i64 u, .int .i64 v], K.blk b2 42 [.int .i64 0, .int .i64 0], K.blk b1 23 [.int .u8 a, .int .u8 b]] ∧ (1 ≤ n ∧ n ≤ 30) ∧ Parts u v ∧ ∀ m, n < m → m ≤ 30 → ¬ (u % m = 0 ∧ v % m = 0)) (fun vi => (intOf (K.nth vi 0)).toNat) ?_ ?_
  · exact ⟨30, _, _, rfl, rfl, by omega, by omega, fun m h1 h2 => absurd h1 (by omega)⟩
  intro vi vr L hJ
  obtain ⟨n, u, v, rfl, rfl, hn, hp, hall⟩ := hJ
  try dsimp only [setd, setn, ev, nth, over, cl, eI, eP, eT, setM, setF, List.map, List.append, List.drop, List.take]
  refine K.seq ?_
  refine K.seq ?_
  refine K.region_lit ?_
  refine K.seq_pure (K.move) rfl ?_
  refine Rv.zn ?_
  refine K.seq_pure (K.gtr rfl rfl) rfl ?_
  refine Rv.zn ?_
  refine K.seq_nil ?_
  refine K.norm_then ?_
  refine K.cond rfl (fun ht17 => ?_) (fun ht17 => ?_)
  · try replace ht17 := of_decide_eq_true ht17
    refine K.skip ?_
    refine K.norm_then ?_
    refine K.seq ?_
    refine K.block ?_
    refine K.seq ?_
    refine K.region_lit ?_
    refine K.seq_pure (K.fieldAddr_lit fo_42_0 rfl) rfl ?_
    refine Rv.zn ?_
    refine K.seq_sil (K.load1_own one_3 rfl (K.m0) rfl) rfl ?_
    try dsimp only [setd, setn, ev, nth, over, cl, eI, eP, eT, List.map, List.append, List.drop, List.take]
    refine K.seq_pure (K.move) rfl ?_
    refine Rv.zn ?_
    refine K.seq_pure (K.rem_i64 rfl rfl (by omega) (by omega)) rfl ?_
    refine Rv.zn ?_
    refine K.seq_pure (K.eql rfl rfl) rfl ?_
    refine Rv.zn ?_
    refine K.seq_pure (K.move) rfl ?_
    refine Rv.zn ?_
    refine K.split 25 rfl (fun hg25 => ?_) (fun hg25 => ?_)
    · try replace hg25 := of_decide_eq_true hg25
      refine K.seq_pure (K.fieldAddr_lit fo_42_1 rfl) rfl ?_
      refine Rv.zn ?_
      refine K.seq_sil (K.load1_own one_3 rfl (K.m0) rfl) rfl ?_
      try dsimp only [setd, setn, ev, nth, over, cl, eI, eP, eT, List.map, List.append, List.drop, List.take]
      refine K.seq_pure (K.move) rfl ?_
      refine Rv.zn ?_
      refine K.seq_pure (K.rem_i64 rfl rfl (by omega) (by omega)) rfl ?_
      refine Rv.zn ?_
      refine K.seq_pure (K.eql rfl rfl) rfl ?_
      refine Rv.zn ?_
      refine K.seq_pure (K.pick_t rfl) rfl ?_
      refine Rv.zn ?_
      refine K.seq_nil ?_
      refine K.norm_then ?_
      refine K.cond rfl (fun ht31 => ?_) (fun ht31 => ?_)
      · try replace ht31 := of_decide_eq_true ht31
        refine K.draw_L [9] Tryz_mixed ?_
        refine K.d_pure 0 rfl (K.fieldAddr_lit fo_42_0 rfl) (by kernel_rfl) rfl ?_
        refine Rv.zn ?_
        refine K.d_mem 1 rfl (K.load1_own one_3 rfl (K.m0) rfl) (fun _ h => h) (by kernel_rfl) (by kernel_rfl) rfl ?_
        try dsimp only [setd, setn, ev, nth, over, cl, eI, eP, eT, List.map, List.append, List.drop, List.take]
        refine K.d_pure 2 rfl (K.move) (by kernel_rfl) rfl ?_
        refine Rv.zn ?_
        refine K.d_pure 3 rfl (K.quo_i64 rfl rfl (by omega) (by omega) (by omega)) (by kernel_rfl) rfl ?_
        refine Rv.zn ?_
        refine K.d_pure 4 rfl (K.fieldAddr_lit fo_42_1 rfl) (by kernel_rfl) rfl ?_
        refine Rv.zn ?_
        refine K.d_mem 5 rfl (K.load1_own one_3 rfl (K.m0) rfl) (fun _ h => h) (by kernel_rfl) (by kernel_rfl) rfl ?_
        try dsimp only [setd, setn, ev, nth, over, cl, eI, eP, eT, List.map, List.append, List.drop, List.take]
        refine K.d_pure 6 rfl (K.move) (by kernel_rfl) rfl ?_
        refine Rv.zn ?_
        refine K.d_pure 7 rfl (K.quo_i64 rfl rfl (by omega) (by omega) (by omega)) (by kernel_rfl) rfl ?_
        refine Rv.zn ?_
        refine K.d_call 8 rfl (K.call_g cal_19 (fun F w hF hw => c37 w)) (fun _ h => h) (by kernel_rfl) rfl ?_
        try dsimp only [setd, setn, ev, nth, over, cl, eI, eP, eT, List.map, List.append, List.drop, List.take]
        refine K.d_last 9 rfl (K.store_all sz_42 rfl rfl rfl rfl (K.rp0)) rfl (by kernel_rfl) rfl ?_
        intro _ _
        try dsimp only [setd, setn, ev, nth, over, cl, eI, eP, eT, List.map, List.append, List.drop, List.take]
        refine K.d_done (by kernel_rfl) ?_
        refine K.norm_block ?_
        refine K.norm_then ?_
        refine K.region_lit ?_
        refine K.seq_pure (K.move) rfl ?_
        refine Rv.zn ?_
        refine K.seq_pure (K.sub_i64 rfl rfl (by omega)) rfl ?_
        refine Rv.zn ?_
        refine K.seq_pure (K.assign) rfl ?_
        refine Rv.zn ?_
        refine K.seq_nil ?_
        have hnext : (¬ (u % n = 0 ∧ v % n = 0)) → ∀ m, n - 1 < m → m ≤ 30 → ¬ (u % m = 0 ∧ v % m = 0) := fun hno m h1 h2 hh => (Int.lt_or_eq_of_le (show n ≤ m by omega)).elim (fun h3 => hall m h3 h2 hh) (fun h3 => hno (by rw [h3]; exact hh))
        first | (have hd := div_step hp (by omega) hg25 ht31 hall; exact K.round_endW (L'' := [K.blk b3 42 [.int .i64 (u / n), .int .i64 (v / n)], K.blk b2 42 [.int .i64 0, .int .i64 0], K.blk b1 23 [.int .u8 a, .int .u8 b]]) [.int .i64 (n - 1)] ⟨n - 1, u / n, v / n, rfl, rfl, by omega, hd.1, hd.2⟩ (by simp [K.nth, intOf]; omega) (by repeat (first | exact List.Sublist.refl _ | apply List.Sublist.cons)) (by kernel_rfl)) | exact K.round_endW [.int .i64 (n - 1)] ⟨n - 1, u, v, rfl, rfl, by omega, hp, hnext (fun h => ht31 h.2)⟩ (by simp [K.nth, intOf]; omega) (by repeat (first | exact List.Sublist.refl _ | apply List.Sublist.cons)) (by kernel_rfl)
      try replace ht31 := of_decide_eq_false ht31
      refine K.skip ?_
      refine K.norm_block ?_
      refine K.norm_then ?_
      refine K.region_lit ?_
      refine K.seq_pure (K.move) rfl ?_
      refine Rv.zn ?_
      refine K.seq_pure (K.sub_i64 rfl rfl (by omega)) rfl ?_
      refine Rv.zn ?_
      refine K.seq_pure (K.assign) rfl ?_
      refine Rv.zn ?_
      refine K.seq_nil ?_
      have hnext : (¬ (u % n = 0 ∧ v % n = 0)) → ∀ m, n - 1 < m → m ≤ 30 → ¬ (u % m = 0 ∧ v % m = 0) := fun hno m h1 h2 hh => (Int.lt_or_eq_of_le (show n ≤ m by omega)).elim (fun h3 => hall m h3 h2 hh) (fun h3 => hno (by rw [h3]; exact hh))
      first | (have hd := div_step hp (by omega) hg25 ht31 hall; exact K.round_endW (L'' := [K.blk b3 42 [.int .i64 (u / n), .int .i64 (v / n)], K.blk b2 42 [.int .i64 0, .int .i64 0], K.blk b1 23 [.int .u8 a, .int .u8 b]]) [.int .i64 (n - 1)] ⟨n - 1, u / n, v / n, rfl, rfl, by omega, hd.1, hd.2⟩ (by simp [K.nth, intOf]; omega) (by repeat (first | exact List.Sublist.refl _ | apply List.Sublist.cons)) (by kernel_rfl)) | exact K.round_endW [.int .i64 (n - 1)] ⟨n - 1, u, v, rfl, rfl, by omega, hp, hnext (fun h => ht31 h.2)⟩ (by simp [K.nth, intOf]; omega) (by repeat (first | exact List.Sublist.refl _ | apply List.Sublist.cons)) (by kernel_rfl)
    try replace hg25 := of_decide_eq_false hg25
    refine K.seq_skip ?_ ?_
    · rfl
    try dsimp only [setd, setn, ev, nth, over, cl, eI, eP, eT, List.map, List.append, List.drop, List.take]
    refine K.seq_skip ?_ ?_
    · rfl
    try dsimp only [setd, setn, ev, nth, over, cl, eI, eP, eT, List.map, List.append, List.drop, List.take]
    refine K.seq_skip ?_ ?_
    · rfl
    try dsimp only [setd, setn, ev, nth, over, cl, eI, eP, eT, List.map, List.append, List.drop, List.take]
    refine K.seq_skip ?_ ?_
    · rfl
    try dsimp only [setd, setn, ev, nth, over, cl, eI, eP, eT, List.map, List.append, List.drop, List.take]
    refine K.seq_skip ?_ ?_
    · rfl
    try dsimp only [setd, setn, ev, nth, over, cl, eI, eP, eT, List.map, List.append, List.drop, List.take]
    refine K.seq_pure (K.pick_f rfl) rfl ?_
    refine Rv.zn ?_
    refine K.seq_nil ?_
    refine K.norm_then ?_
    refine K.cond_false rfl ?_
    refine K.skip ?_
    refine K.norm_block ?_
    refine K.norm_then ?_
    refine K.region_lit ?_
    refine K.seq_pure (K.move) rfl ?_
    refine Rv.zn ?_
    refine K.seq_pure (K.sub_i64 rfl rfl (by omega)) rfl ?_
    refine Rv.zn ?_
    refine K.seq_pure (K.assign) rfl ?_
    refine Rv.zn ?_
    refine K.seq_nil ?_
    have hnext : (¬ (u % n = 0 ∧ v % n = 0)) → ∀ m, n - 1 < m → m ≤ 30 → ¬ (u % m = 0 ∧ v % m = 0) := fun hno m h1 h2 hh => (Int.lt_or_eq_of_le (show n ≤ m by omega)).elim (fun h3 => hall m h3 h2 hh) (fun h3 => hno (by rw [h3]; exact hh))
    exact K.round_endW [.int .i64 (n - 1)] ⟨n - 1, u, v, rfl, rfl, by omega, hp, hnext (fun h => hg25 h.1)⟩ (by simp [K.nth, intOf]; omega) (by repeat (first | exact List.Sublist.refl _ | apply List.Sublist.cons)) (by kernel_rfl)
  try replace ht17 := of_decide_eq_false ht17
  refine K.exit ?_
  refine K.exit_then ?_
  refine K.exit_then ?_
  refine K.exit_here ?_
  refine K.norm_then ?_
  refine K.seq ?_
  refine K.region_lit ?_
  refine K.seq_sil (K.loadA_own ag_42 rfl (K.m0) rfl) rfl ?_
  try dsimp only [setd, setn, ev, nth, over, cl, eI, eP, eT, List.map, List.append, List.drop, List.take]
  refine K.seq_st (K.store_all sz_42 rfl rfl rfl rfl (K.rp1)) rfl ?_
  try dsimp only [setd, setn, ev, nth, over, cl, eI, eP, eT, List.map, List.append, List.drop, List.take]
  refine K.seq_nil ?_
  refine K.norm_then ?_
  refine K.ret ?_
  refine K.end_ret (fun w hw => K.res_c rfl rfl (K.run_cellA ag_42 rfl (K.m1) rfl w hw)) ?_
  exact K.rets (u, v) (scE_of hp (fun m h1 h2 => hall m (by omega) h2)) rfl (List.nil_sublist _)

end Go.Proofs.YtekkpcpbnonkaaaGreatDoor.Sc
end
section
set_option linter.unusedSimpArgs false
set_option linter.unusedVariables false
namespace Go.Proofs.YtekkpcpbnonkaaaGreatDoor.Rv
open Go
def ownS (r : List RvT) : List Int := r.map (·.ht)
theorem own_at {r : List RvT} {i : Nat} (h : i < r.length) : (ownS r).getD i default = (r.getD i default).ht := by
  unfold ownS
  rw [List.getD_eq_getElem?_getD, List.getElem?_map, List.getD_eq_getElem?_getD, List.getElem?_eq_getElem h]; rfl
theorem own_len {r : List RvT} : (ownS r).length = r.length := by unfold ownS; rw [List.length_map]
def badB (r : List RvT) (h : List Int) (i : Nat) : Bool := decide ((r.getD i default).dn ≠ -1) && decide (h.getD i default < h.getD (r.getD i default).dn.toNat default + (r.getD i default).ls)
def badS (r : List RvT) (h : List Int) : List Int := selN (badB r h) r.length
def runB (r : List RvT) (h : List Int) : Bool := decide (h.length = r.length) && (List.range h.length).all (fun i => decide (0 ≤ h.getD i default ∧ h.getD i default ≤ 9000)) && (badS r h).isEmpty
structure Runs (r : List RvT) (h : List Int) : Prop where
  l : h.length = r.length
  b : ∀ i, i < r.length → 0 ≤ h.getD i default ∧ h.getD i default ≤ 9000
  d : ∀ i, i < r.length → (r.getD i default).dn ≠ -1 → h.getD (r.getD i default).dn.toNat default + (r.getD i default).ls ≤ h.getD i default
theorem bad_iff {r : List RvT} {h : List Int} {i : Nat} : badB r h i = true ↔ (r.getD i default).dn ≠ -1 ∧ h.getD i default < h.getD (r.getD i default).dn.toNat default + (r.getD i default).ls := by
  unfold badB; rw [Bool.and_eq_true, decide_eq_true_eq, decide_eq_true_eq]
theorem bad_no {r : List RvT} {h : List Int} {i : Nat} : badB r h i = false ↔ (r.getD i default).dn = -1 ∨ h.getD (r.getD i default).dn.toNat default + (r.getD i default).ls ≤ h.getD i default := by
  rw [← Bool.not_eq_true, bad_iff]
  constructor
  · intro hn
    by_cases h1 : (r.getD i default).dn = -1
    · exact .inl h1
    · exact .inr (Int.not_lt.1 fun h2 => hn ⟨h1, h2⟩)
  · rintro (h1 | h1) ⟨h2, h3⟩
    · exact h2 h1
    · omega
theorem sel_nil {p : Nat → Bool} {n : Nat} : selN p n = [] ↔ ∀ i, i < n → p i = false := by
  constructor
  · intro h i hi
    cases hp : p i with
    | false => rfl
    | true =>
      have : (i : Int) ∈ selN p n := mem_sel.2 ⟨i, hi, hp, rfl⟩
      rw [h] at this; simp at this
  · intro h
    rw [List.eq_nil_iff_forall_not_mem]
    intro x hx
    obtain ⟨i, hi, hp, _⟩ := mem_sel.1 hx
    rw [h i hi] at hp; cases hp
theorem runs_iff {r : List RvT} {h : List Int} : runB r h = true ↔ Runs r h := by
  unfold runB
  rw [Bool.and_eq_true, Bool.and_eq_true, decide_eq_true_eq, List.all_eq_true, List.isEmpty_iff]
  unfold badS
  rw [sel_nil]
  constructor
  · rintro ⟨⟨h1, h2⟩, h3⟩
    refine ⟨h1, fun i hi => of_decide_eq_true (h2 i (List.mem_range.2 (by omega))), fun i hi hd => ?_⟩
    rcases bad_no.1 (h3 i hi) with h4 | h4
    · exact absurd h4 hd
    · exact h4
  · intro g
    refine ⟨⟨g.l, fun i hi => decide_eq_true (g.b i (by have := List.mem_range.1 hi; rw [g.l] at this; exact this))⟩, fun i hi => bad_no.2 ?_⟩
    by_cases hd : (r.getD i default).dn = -1
    · exact .inl hd
    · exact .inr (g.d i hi hd)
def stopB (r : List RvT) (a j : Nat) : Bool := badB r (ownS r) (stps r j a) || decide ((r.getD (stps r j a) default).dn = -1)
def stopN (r : List RvT) (a : Nat) : Nat := ((List.range (r.length + 1)).find? (stopB r a)).getD 0
def stepL (r : List RvT) (a k : Nat) : List Int := (List.range k).map fun j => ((stps r j a : Nat) : Int)
def pouredS (r : List RvT) (a : Nat) : List Int := stepL r a (stopN r a + 1)
theorem stop_of {r : List RvT} {a d : Nat} (hd : d ≤ r.length) (h1 : stopB r a d = true) (h2 : ∀ j, j < d → stopB r a j = false) : stopN r a = d := by
  unfold stopN
  have : (List.range (r.length + 1)).find? (stopB r a) = some d := by
    rw [List.find?_range_eq_some]
    exact ⟨h1, List.mem_range.2 (by omega), fun j hj => by rw [h2 j hj]; rfl⟩
  rw [this]; rfl
theorem step_s {r : List RvT} {a k : Nat} : stepL r a (k + 1) = stepL r a k ++ [((stps r k a : Nat) : Int)] := by
  unfold stepL; rw [List.range_succ, List.map_append]; rfl
theorem step_len {r : List RvT} {a k : Nat} : (stepL r a k).length = k := by unfold stepL; rw [List.length_map, List.length_range]
section
variable {r : List RvT} {a i k j p : Nat} {h : List Int}
theorem poured_bad (g : Good r) (ha : a < r.length) (hk : k ≤ dep r a) (h1 : ∀ j, j < k → badB r (ownS r) (stps r j a) = false) (h2 : badB r (ownS r) (stps r k a) = true) : pouredS r a = stepL r a (k + 1) := by
  have hd := dep_is g ha
  unfold pouredS
  rw [stop_of (d := k) (by omega) (by unfold stopB; rw [h2]; rfl) (fun j hj => by unfold stopB; rw [h1 j hj, decide_eq_false (hd.2.2 j (by omega))]; rfl)]
theorem poured_all (g : Good r) (ha : a < r.length) (h1 : ∀ j, j ≤ dep r a → badB r (ownS r) (stps r j a) = false) : pouredS r a = stepL r a (dep r a + 1) := by
  have hd := dep_is g ha
  unfold pouredS
  rw [stop_of (d := dep r a) (by omega) (by unfold stopB; rw [decide_eq_true hd.2.1, Bool.or_true]) (fun j hj => by unfold stopB; rw [h1 j (by omega), decide_eq_false (hd.2.2 j hj)]; rfl)]
def fillF (r : List RvT) (h : List Int) (i n : Nat) : Int := (List.range n).foldl (fun m k => if 0 ≤ drp r i k then max m (h.getD k default + drp r i k) else m) (h.getD i default)
def fillS (r : List RvT) (h : List Int) : List Int := (List.range r.length).map fun i => fillF r h i r.length
def carveF (r : List RvT) (h : List Int) (i n : Nat) : Int := (List.range n).foldl (fun m k => if 0 ≤ drp r k i then min m (h.getD k default - drp r k i) else m) (h.getD i default)
def carveS (r : List RvT) (h : List Int) : List Int := (List.range r.length).map fun i => carveF r h i r.length
theorem fill_s {n : Nat} : fillF r h i (n + 1) = if 0 ≤ drp r i n then max (fillF r h i n) (h.getD n default + drp r i n) else fillF r h i n := by
  unfold fillF; rw [List.range_succ, List.foldl_append]; rfl
theorem carve_s {n : Nat} : carveF r h i (n + 1) = if 0 ≤ drp r n i then min (carveF r h i n) (h.getD n default - drp r n i) else carveF r h i n := by
  unfold carveF; rw [List.range_succ, List.foldl_append]; rfl
theorem map_at {f : Nat → Int} {n : Nat} (hi : i < n) : ((List.range n).map f).getD i default = f i := by
  rw [List.getD_eq_getElem?_getD, List.getElem?_map, List.getElem?_range hi]; rfl
theorem fill_at (hi : i < r.length) : (fillS r h).getD i default = fillF r h i r.length := map_at hi
theorem carve_at (hi : i < r.length) : (carveS r h).getD i default = carveF r h i r.length := map_at hi
theorem fill_len : (fillS r h).length = r.length := by unfold fillS; rw [List.length_map, List.length_range]
theorem carve_len : (carveS r h).length = r.length := by unfold carveS; rw [List.length_map, List.length_range]
theorem fill_ge0 : ∀ n, h.getD i default ≤ fillF r h i n
  | 0 => Int.le_refl _
  | n + 1 => by have := fill_ge0 n; rw [fill_s]; split <;> omega
theorem fill_ge : ∀ n, k < n → 0 ≤ drp r i k → h.getD k default + drp r i k ≤ fillF r h i n
  | 0, hk, _ => absurd hk (Nat.not_lt_zero _)
  | n + 1, hk, hd => by
    rw [fill_s]
    rcases Nat.lt_or_ge k n with h1 | h1
    · have := fill_ge n h1 hd
      split <;> omega
    · have e : n = k := by omega
      subst e
      rw [if_pos hd]; omega
theorem fill_le {x : Int} (h0 : h.getD i default ≤ x) (h1 : ∀ k, 0 ≤ drp r i k → h.getD k default + drp r i k ≤ x) : ∀ n, fillF r h i n ≤ x
  | 0 => h0
  | n + 1 => by
    have := fill_le h0 h1 n
    rw [fill_s]
    split
    · rename_i hd
      have := h1 n hd
      omega
    · omega
theorem carve_le0 : ∀ n, carveF r h i n ≤ h.getD i default
  | 0 => Int.le_refl _
  | n + 1 => by have := carve_le0 n; rw [carve_s]; split <;> omega
theorem carve_le : ∀ n, k < n → 0 ≤ drp r k i → carveF r h i n ≤ h.getD k default - drp r k i
  | 0, hk, _ => absurd hk (Nat.not_lt_zero _)
  | n + 1, hk, hd => by
    rw [carve_s]
    rcases Nat.lt_or_ge k n with h1 | h1
    · have := carve_le n h1 hd
      split <;> omega
    · have e : n = k := by omega
      subst e
      rw [if_pos hd]; omega
theorem carve_ge {x : Int} (h0 : x ≤ h.getD i default) : ∀ n, (∀ k, k < n → 0 ≤ drp r k i → x ≤ h.getD k default - drp r k i) → x ≤ carveF r h i n
  | 0, _ => h0
  | n + 1, h1 => by
    have := carve_ge h0 n (fun k hk => h1 k (by omega))
    rw [carve_s]
    split
    · rename_i hd
      have := h1 n (by omega) hd
      omega
    · omega
theorem drp_0 (g : Good r) (hi : i < r.length) : drp r i i = 0 := by rw [drp_bl g hi bl_refl]; omega
theorem drp_dn (g : Good r) (hi : i < r.length) (hd : (r.getD i default).dn ≠ -1) : drp r i (r.getD i default).dn.toNat = (r.getD i default).ls := by
  rw [drp_bl g hi (bl_down hd), DM_d g hi hd]; omega
theorem dn_lt (g : Good r) (hi : i < r.length) (hd : (r.getD i default).dn ≠ -1) : (r.getD i default).dn.toNat < r.length := by
  have := stp_lt g hi; rw [stp_d hd] at this; exact this
theorem fill_runs (g : Good r) (hl : h.length = r.length) (h0 : ∀ i, i < r.length → 0 ≤ h.getD i default) (h1 : ∀ i, i < r.length → fillF r h i r.length ≤ 9000) : Runs r (fillS r h) := by
  refine ⟨fill_len, fun i hi => ?_, fun i hi hd => ?_⟩
  · rw [fill_at hi]
    have := fill_ge0 (r := r) (h := h) (i := i) r.length
    have := h0 i hi; have := h1 i hi; omega
  · have hlt := dn_lt g hi hd
    rw [fill_at hi, fill_at hlt]
    have e := DM_d g hi hd
    have := fill_le (r := r) (h := h) (i := (r.getD i default).dn.toNat) (x := fillF r h i r.length - (r.getD i default).ls) ?_ ?_ r.length
    · omega
    · have := fill_ge (r := r) (h := h) (i := i) (k := (r.getD i default).dn.toNat) r.length hlt (by rw [drp_dn g hi hd]; have := g.p i hi; omega)
      rw [drp_dn g hi hd] at this; omega
    · intro k hk
      have hb := (drp_ge g hlt).1 hk
      have hb2 := bl_tr (bl_down hd) hb
      have := fill_ge (r := r) (h := h) (i := i) (k := k) r.length (bl_lt g hi hb2) ((drp_ge g hi).2 hb2)
      rw [drp_bl g hi hb2] at this
      rw [drp_bl g hlt hb]; omega
theorem carve_runs (g : Good r) (hl : h.length = r.length) (h0 : ∀ i, i < r.length → h.getD i default ≤ 9000) (h1 : ∀ i, i < r.length → 0 ≤ carveF r h i r.length) : Runs r (carveS r h) := by
  refine ⟨carve_len, fun i hi => ?_, fun i hi hd => ?_⟩
  · rw [carve_at hi]
    have := carve_le0 (r := r) (h := h) (i := i) r.length
    have := h0 i hi; have := h1 i hi; omega
  · have hlt := dn_lt g hi hd
    rw [carve_at hi, carve_at hlt]
    have e := DM_d g hi hd
    have := carve_ge (r := r) (h := h) (i := i) (x := carveF r h (r.getD i default).dn.toNat r.length + (r.getD i default).ls) ?_ r.length ?_
    · omega
    · have := carve_le (r := r) (h := h) (i := (r.getD i default).dn.toNat) (k := i) r.length hi (by rw [drp_dn g hi hd]; have := g.p i hi; omega)
      rw [drp_dn g hi hd] at this; omega
    · intro k hkl hk
      have hb := (drp_ge g hkl).1 hk
      have hb2 := bl_tr hb (bl_down hd)
      have := carve_le (r := r) (h := h) (i := (r.getD i default).dn.toNat) (k := k) r.length hkl ((drp_ge g hkl).2 hb2)
      rw [drp_bl g hkl hb2] at this
      rw [drp_bl g hkl hb]; omega
def belS (r : List RvT) (i : Nat) : List (Int × Int) := (List.range (dep r i + 1)).map fun j => (((stps r j i : Nat) : Int), DM r i - DM r (stps r j i))
theorem bel_len : (belS r i).length = dep r i + 1 := by unfold belS; rw [List.length_map, List.length_range]
theorem bel_at (hk : k ≤ dep r i) : (belS r i)[k]? = some (((stps r k i : Nat) : Int), DM r i - DM r (stps r k i)) := by
  unfold belS; rw [List.getElem?_map, List.getElem?_range (by omega)]; rfl
theorem bel_some {x : Int × Int} (hx : (belS r i)[k]? = some x) : k ≤ dep r i ∧ x = (((stps r k i : Nat) : Int), DM r i - DM r (stps r k i)) := by
  have hk : k < (belS r i).length := (List.getElem?_eq_some_iff.1 hx).1
  rw [bel_len] at hk
  rw [bel_at (by omega)] at hx
  exact ⟨by omega, (Option.some.inj hx).symm⟩
theorem stps_inj (g : Good r) (hi : i < r.length) (hj : j ≤ dep r i) (hk : k ≤ dep r i) (e : stps r j i = stps r k i) : j = k := by
  have h1 := dep_stps g hi j
  have h2 := dep_stps g hi k
  rw [e, h2] at h1; omega
def fillI (r : List RvT) (i : Nat) : Nat → Int
  | 0 => 0
  | k + 1 => max (fillI r i k) ((r.getD (stps r k i) default).ht + (DM r i - DM r (stps r k i)))
theorem fillI_bd (g : Good r) (hi : i < r.length) : ∀ k, 0 ≤ fillI r i k ∧ fillI r i k ≤ 13500
  | 0 => by unfold fillI; omega
  | k + 1 => by
    have := fillI_bd g hi k
    have h1 := g.p _ (stps_lt g hi k)
    have h2 := DM_le g hi
    have h3 := DM_le g (stps_lt g hi k)
    unfold fillI; omega
theorem fillI_ge : ∀ k, j < k → (r.getD (stps r j i) default).ht + (DM r i - DM r (stps r j i)) ≤ fillI r i k
  | 0, hk => absurd hk (Nat.not_lt_zero _)
  | k + 1, hk => by
    unfold fillI
    rcases Nat.lt_or_ge j k with h1 | h1
    · have := fillI_ge k h1; omega
    · have e : k = j := by omega
      subst e; omega
theorem fillI_le {x : Int} (h0 : 0 ≤ x) : ∀ k, (∀ j, j < k → (r.getD (stps r j i) default).ht + (DM r i - DM r (stps r j i)) ≤ x) → fillI r i k ≤ x
  | 0, _ => h0
  | k + 1, h1 => by
    have := fillI_le h0 k (fun j hj => h1 j (by omega))
    have := h1 k (by omega)
    unfold fillI; omega
theorem fillI_eq (g : Good r) (hi : i < r.length) : fillI r i (dep r i + 1) = fillF r (ownS r) i r.length := by
  have hp := g.p i hi
  have h0 := fill_ge0 (r := r) (h := ownS r) (i := i) r.length
  rw [own_at hi] at h0
  refine Int.le_antisymm (fillI_le (by omega) _ (fun j hj => ?_)) (fill_le ?_ (fun k hk => ?_) _)
  · have hb : bl r i (stps r j i) := ⟨j, rfl⟩
    have hl := stps_lt g hi j
    have := fill_ge (r := r) (h := ownS r) (i := i) (k := stps r j i) r.length hl ((drp_ge g hi).2 hb)
    rw [drp_bl g hi hb, own_at hl] at this; omega
  · have := fillI_ge (r := r) (i := i) (j := 0) (dep r i + 1) (by omega)
    rw [own_at hi]
    simp only [stps] at this
    omega
  · have hb := (drp_ge g hi).1 hk
    obtain ⟨j, hj, rfl⟩ := (bl_fin g hi).1 hb
    rw [drp_bl g hi hb, own_at (stps_lt g hi j)]
    exact fillI_ge _ (by omega)
def cutG (r : List RvT) (p : Nat) : Nat → Int
  | 0 => 9000
  | i + 1 => if 0 ≤ drp r i p then min (cutG r p i) ((r.getD i default).ht - drp r i p) else cutG r p i
theorem cut_le9 : ∀ i, cutG r p i ≤ 9000
  | 0 => Int.le_refl _
  | i + 1 => by have := cut_le9 i; unfold cutG; split <;> omega
theorem cut_ge (g : Good r) : ∀ i, i ≤ r.length → -4500 ≤ cutG r p i
  | 0, _ => by unfold cutG; omega
  | i + 1, hi => by
    have := cut_ge g i (by omega)
    have := g.p i (by omega)
    have := drp_bd g (show i < r.length by omega) (k := p)
    unfold cutG; split <;> omega
theorem cut_mono : ∀ i j, cutG r p (i + j) ≤ cutG r p i
  | i, 0 => Int.le_refl _
  | i, j + 1 => by
    have := cut_mono i j
    show cutG r p (i + j + 1) ≤ _
    rw [cutG]; split <;> omega
theorem cut_eq (g : Good r) (hp : p < r.length) : cutG r p r.length = carveF r (ownS r) p r.length := by
  have h1 : ∀ n, n ≤ r.length → cutG r p n = min 9000 (cutG r p n) ∧ carveF r (ownS r) p n = min ((r.getD p default).ht) (cutG r p n) := by
    intro n
    induction n with
    | zero => intro _; have := g.p p hp; unfold carveF cutG; simp only [List.range_zero, List.foldl_nil]; rw [own_at hp]; omega
    | succ n ih =>
      intro hn
      have h := ih (by omega)
      have h9 := cut_le9 (r := r) (p := p) (n + 1)
      refine ⟨by omega, ?_⟩
      rw [carve_s, own_at (by omega), cutG]
      split <;> omega
  have h2 : ∀ n, p < n → cutG r p n ≤ (r.getD p default).ht := by
    intro n
    induction n with
    | zero => intro h; exact absurd h (Nat.not_lt_zero _)
    | succ n ih =>
      intro h
      rw [cutG]
      rcases Nat.lt_or_ge p n with h3 | h3
      · have := ih h3; split <;> omega
      · have e : n = p := by omega
        subst e
        rw [drp_0 g hp, if_pos (Int.le_refl 0)]; omega
  have := h1 r.length (Nat.le_refl _)
  have := h2 r.length hp
  omega
def cutL (r : List RvT) (i k : Nat) : List Int := (List.range r.length).map fun (p : Nat) => if (stepL r i k).contains ((p : Nat) : Int) then cutG r p (i + 1) else cutG r p i
theorem cutL_len : (cutL r i k).length = r.length := by unfold cutL; rw [List.length_map, List.length_range]
theorem mem_step {x : Nat} : (x : Int) ∈ stepL r i k ↔ ∃ j, j < k ∧ stps r j i = x := by
  unfold stepL
  rw [List.mem_map]
  constructor
  · rintro ⟨j, hj, e⟩
    exact ⟨j, List.mem_range.1 hj, by omega⟩
  · rintro ⟨j, hj, e⟩
    exact ⟨j, List.mem_range.2 hj, by rw [e]⟩
theorem cutL_at {x : Nat} (hx : x < r.length) : (cutL r i k).getD x default = if (stepL r i k).contains (x : Int) then cutG r x (i + 1) else cutG r x i := map_at hx
theorem cutL_0 : cutL r i 0 = (List.range r.length).map fun p => cutG r p i := by
  unfold cutL; apply List.map_congr_left; intro p _; simp [stepL]
theorem cutL_all (g : Good r) (hi : i < r.length) : cutL r i (dep r i + 1) = cutL r (i + 1) 0 := by
  rw [cutL_0]
  unfold cutL; apply List.map_congr_left; intro p _
  by_cases h : (p : Int) ∈ stepL r i (dep r i + 1)
  · rw [if_pos (by simpa using h)]
  · rw [if_neg (by simpa using h)]
    rw [cutG, if_neg]
    intro hd
    obtain ⟨j, hj, e⟩ := (bl_fin g hi).1 ((drp_ge g hi).1 hd)
    exact h (mem_step.2 ⟨j, by omega, e⟩)
theorem cutL_cur (g : Good r) (hi : i < r.length) (hk : k ≤ dep r i) : (cutL r i k).getD (stps r k i) default = cutG r (stps r k i) i := by
  rw [cutL_at (stps_lt g hi k), if_neg]
  intro h
  obtain ⟨j, hj, e⟩ := mem_step.1 (by simpa using h)
  have := stps_inj g hi (by omega) hk e
  omega
theorem cut_next (g : Good r) (hi : i < r.length) : cutG r (stps r k i) (i + 1) = min (cutG r (stps r k i) i) ((r.getD i default).ht - (DM r i - DM r (stps r k i))) := by
  have hb : bl r i (stps r k i) := ⟨k, rfl⟩
  rw [cutG, if_pos ((drp_ge g hi).2 hb), drp_bl g hi hb]
theorem cutL_set (g : Good r) (hi : i < r.length) (hk : k ≤ dep r i) : (cutL r i k).set (stps r k i) (cutG r (stps r k i) (i + 1)) = cutL r i (k + 1) := by
  refine list_ext (by rw [List.length_set, cutL_len, cutL_len]) (fun j hj => ?_)
  rw [List.length_set, cutL_len] at hj
  have hs := stps_lt g hi k
  rw [cutL_at hj]
  by_cases e : stps r k i = j
  · subst e
    rw [if_pos (by simp only [List.contains_iff_mem]; exact mem_step.2 ⟨k, by omega, rfl⟩)]
    simp [List.getD_eq_getElem?_getD, List.getElem?_set, cutL_len, hs]
  · have e1 : ((cutL r i k).set (stps r k i) (cutG r (stps r k i) (i + 1))).getD j default = (cutL r i k).getD j default := by
      simp [List.getD_eq_getElem?_getD, List.getElem?_set, e]
    rw [e1, cutL_at hj, step_s]
    congr 1
    simp only [List.contains_iff_mem, List.mem_append, List.mem_singleton, eq_iff_iff]
    constructor
    · exact .inl
    · rintro (h | h)
      · exact h
      · omega
def fillE (r : List RvT) : Int := if (chk r).2.2 ≠ 0 then (chk r).2.2 else if runB r (fillS r (ownS r)) = true then 0 else 9
def fillL (r : List RvT) : List Int := if fillE r = 0 then fillS r (ownS r) else []
def carveE (r : List RvT) : Int := if (chk r).2.2 ≠ 0 then (chk r).2.2 else if runB r (carveS r (ownS r)) = true then 0 else 9
def carveL (r : List RvT) : List Int := if carveE r = 0 then carveS r (ownS r) else []
theorem own_bd (g : Good r) (hi : i < r.length) : 0 ≤ (ownS r).getD i default ∧ (ownS r).getD i default ≤ 9000 := by
  rw [own_at hi]; have := g.p i hi; omega
theorem fillE_9 (g : Good r) (hc : (chk r).2.2 = 0) (hi : i < r.length) (h : 9000 < fillI r i (dep r i + 1)) : fillE r = 9 := by
  unfold fillE
  rw [if_neg (by omega), if_neg]
  intro hr
  have := (runs_iff.1 hr).b i hi
  rw [fill_at hi, ← fillI_eq g hi] at this; omega
theorem fillE_0 (g : Good r) (hc : (chk r).2.2 = 0) (h : ∀ i, i < r.length → fillI r i (dep r i + 1) ≤ 9000) : fillE r = 0 := by
  unfold fillE
  rw [if_neg (by omega), if_pos]
  exact runs_iff.2 (fill_runs g own_len (fun i hi => (own_bd g hi).1) (fun i hi => by rw [← fillI_eq g hi]; exact h i hi))
theorem carveE_9 (g : Good r) (hc : (chk r).2.2 = 0) (hi : i < r.length) (h : cutG r (stps r k i) (i + 1) < 0) : carveE r = 9 := by
  have hs := stps_lt g hi k
  unfold carveE
  rw [if_neg (by omega), if_neg]
  intro hr
  have := (runs_iff.1 hr).b _ hs
  rw [carve_at hs, ← cut_eq g hs] at this
  have h2 := cut_mono (r := r) (p := stps r k i) (i + 1) (r.length - (i + 1))
  rw [show i + 1 + (r.length - (i + 1)) = r.length by omega] at h2
  omega
theorem carveE_0 (g : Good r) (hc : (chk r).2.2 = 0) (h : ∀ i, i < r.length → ∀ k, k ≤ dep r i → 0 ≤ cutG r (stps r k i) (i + 1)) : carveE r = 0 := by
  unfold carveE
  rw [if_neg (by omega), if_pos]
  refine runs_iff.2 (carve_runs g own_len (fun i hi => (own_bd g hi).2) (fun p hp => ?_))
  have : ∀ n, n ≤ r.length → 0 ≤ cutG r p n := by
    intro n
    induction n with
    | zero => intro _; unfold cutG; omega
    | succ n ih =>
      intro hn
      have h1 := ih (by omega)
      by_cases hd : 0 ≤ drp r n p
      · obtain ⟨j, hj, e⟩ := (bl_fin g (show n < r.length by omega)).1 ((drp_ge g (by omega)).1 hd)
        have := h n (by omega) j hj
        rw [e] at this; exact this
      · rw [cutG, if_neg hd]; exact h1
  rw [← cut_eq g hp]; exact this _ (Nat.le_refl _)
theorem cutL_fin (g : Good r) : cutL r r.length 0 = carveS r (ownS r) := by
  rw [cutL_0]; unfold carveS
  apply List.map_congr_left
  intro p hp
  exact cut_eq g (List.mem_range.1 hp)
end
def badL (r : List RvT) : List Int := if (chk r).2.2 ≠ 0 then [] else badS r (ownS r)
def pouE (r : List RvT) (a : Int) : Int := if (chk r).2.2 ≠ 0 then (chk r).2.2 else if 0 ≤ a ∧ a ≤ (r.length : Int) - 1 then 0 else 4
def pouL (r : List RvT) (a : Int) : List Int := if pouE r a = 0 then pouredS r a.toNat else []
end Go.Proofs.YtekkpcpbnonkaaaGreatDoor.Rv

namespace Go.Proofs.YtekkpcpbnonkaaaGreatDoor.Rv
open Go
def dcell (f : Nat → Nat → Int) : List Value := (List.range 81).map fun j => .int .i64 (f (j / 9) (j % 9))
theorem dcell_len {f : Nat → Nat → Int} : (dcell f).length = 81 := by unfold dcell; rw [List.length_map, List.length_range]
theorem dcell_at {f : Nat → Nat → Int} {j : Nat} (hj : j < 81) : (dcell f)[j]? = some (.int .i64 (f (j / 9) (j % 9))) := by
  unfold dcell; rw [List.getElem?_map, List.getElem?_range hj]; rfl
theorem riv_at {f : Nat → Nat → Int} {S : Value} {i k : Nat} (hi : i < 9) (hk : k < 9) : (S :: dcell f)[0 + 1 + i * 9 + k * 1]? = some (.int .i64 (f i k)) := by
  rw [show 0 + 1 + i * 9 + k * 1 = (i * 9 + k) + 1 by omega, List.getElem?_cons_succ, dcell_at (by omega), show (i * 9 + k) / 9 = i by omega, show (i * 9 + k) % 9 = k by omega]
theorem dcell_ext {f h : Nat → Nat → Int} (e : ∀ a b, a < 9 → b < 9 → f a b = h a b) : dcell f = dcell h := by
  unfold dcell; apply List.map_congr_left; intro j hj
  have := List.mem_range.1 hj
  rw [e _ _ (by omega) (by omega)]
theorem riv_set {f h : Nat → Nat → Int} {S : Value} {i k : Nat} {v : Int} (hi : i < 9) (hk : k < 9) (e : ∀ a b, a < 9 → b < 9 → h a b = if a = i ∧ b = k then v else f a b) : K.setn (S :: dcell f) (0 + 1 + i * 9 + k * 1) (.int .i64 v) = S :: dcell h := by
  rw [K.setn_eq, show 0 + 1 + i * 9 + k * 1 = (i * 9 + k) + 1 by omega, List.set_cons_succ]
  congr 1
  apply List.ext_getElem?
  intro j
  rw [List.getElem?_set, dcell_len]
  by_cases hj : j < 81
  · rw [dcell_at hj, dcell_at hj, e _ _ (by omega) (by omega)]
    by_cases h1 : i * 9 + k = j
    · rw [if_pos h1, if_pos (by omega), if_pos ⟨by omega, by omega⟩]
    · rw [if_neg h1, if_neg (by omega)]
  · rw [List.getElem?_eq_none (l := dcell h) (by rw [dcell_len]; omega), List.getElem?_eq_none (l := dcell f) (by rw [dcell_len]; omega)]
    split
    · rename_i h1
      rw [if_neg (by omega)]
    · rfl
def drT (r : List RvT) (a b : Nat) : Int := if a < r.length ∧ b < r.length then drp r a b else 0
def dA (r : List RvT) (i k a b : Nat) : Int := if a < i then (if b < r.length then drp r a b else 0) else if a = i ∧ b < k then -1 else 0
def dB (r : List RvT) (i m a b : Nat) : Int := if a < i then (if b < r.length then drp r a b else 0) else if a = i ∧ b < r.length then (if (stepL r i m).contains ((b : Nat) : Int) then DM r i - DM r b else -1) else 0
section
variable {r : List RvT} {i k m a b : Nat}
theorem dA_0 : dcell (dA r 0 0) = dcell (fun _ _ => 0) := dcell_ext fun a b _ _ => by unfold dA; rw [if_neg (by omega), if_neg (by omega)]
theorem dA_next {S : Value} (hi : i < 9) (hk : k < 9) : K.setn (S :: dcell (dA r i k)) (0 + 1 + i * 9 + k * 1) (.int .i64 (-1)) = S :: dcell (dA r i (k + 1)) := riv_set hi hk fun a b _ _ => by
  unfold dA
  by_cases h1 : a < i
  · rw [if_pos h1, if_pos h1, if_neg (show ¬ (a = i ∧ b = k) by omega)]
  · rw [if_neg h1, if_neg h1]
    by_cases h2 : a = i ∧ b = k
    · rw [if_pos h2, if_pos (by omega)]
    · rw [if_neg h2]
      by_cases h3 : a = i ∧ b < k
      · rw [if_pos h3, if_pos (by omega)]
      · rw [if_neg h3, if_neg (by omega)]
theorem dB_0 : dcell (dA r i r.length) = dcell (dB r i 0) := dcell_ext fun a b _ _ => by
  unfold dA dB stepL
  simp
theorem dB_next {S : Value} (g : Good r) (hi : i < r.length) (hm : m ≤ dep r i) : K.setn (S :: dcell (dB r i m)) (0 + 1 + i * 9 + stps r m i * 1) (.int .i64 (DM r i - DM r (stps r m i))) = S :: dcell (dB r i (m + 1)) := by
  have hs := stps_lt g hi m
  have hn := g.n
  refine riv_set (by omega) (by omega) fun a b _ _ => ?_
  unfold dB
  by_cases h1 : a < i
  · rw [if_pos h1, if_pos h1, if_neg (show ¬ (a = i ∧ b = stps r m i) by omega)]
  · rw [if_neg h1, if_neg h1]
    by_cases h2 : a = i ∧ b = stps r m i
    · rw [if_pos h2, if_pos (by omega), if_pos (by simp only [List.contains_iff_mem]; exact mem_step.2 ⟨m, by omega, h2.2.symm⟩), h2.2]
    · rw [if_neg h2]
      by_cases h3 : a = i ∧ b < r.length
      · rw [if_pos h3, if_pos h3]
        have e : (stepL r i (m + 1)).contains ((b : Nat) : Int) = (stepL r i m).contains ((b : Nat) : Int) := by
          rw [Bool.eq_iff_iff]
          simp only [List.contains_iff_mem, step_s, List.mem_append, List.mem_singleton]
          constructor
          · rintro (h | h)
            · exact h
            · omega
          · exact .inl
        rw [e]
      · rw [if_neg h3, if_neg h3]
theorem dB_all (g : Good r) (hi : i < r.length) : dcell (dB r i (dep r i + 1)) = dcell (dA r (i + 1) 0) := dcell_ext fun a b _ _ => by
  unfold dB dA
  by_cases h1 : a < i
  · rw [if_pos h1, if_pos (show a < i + 1 by omega)]
  · rw [if_neg h1]
    by_cases h2 : a = i
    · subst h2
      rw [if_pos (show a < a + 1 by omega)]
      by_cases h3 : b < r.length
      · rw [if_pos ⟨rfl, h3⟩, if_pos h3]
        by_cases h4 : bl r a b
        · obtain ⟨j, hj, e⟩ := (bl_fin g hi).1 h4
          rw [drp_bl g hi h4, if_pos (by simp only [List.contains_iff_mem]; exact mem_step.2 ⟨j, by omega, e⟩)]
        · rw [drp_no g hi h4, if_neg]
          simp only [List.contains_iff_mem]
          intro h5
          obtain ⟨j, _, e⟩ := mem_step.1 h5
          exact h4 ⟨j, e⟩
      · rw [if_neg (by omega), if_neg h3]
    · rw [if_neg (by omega), if_neg (by omega), if_neg (by omega)]
theorem dA_all : dcell (dA r r.length 0) = dcell (drT r) := dcell_ext fun a b _ _ => by
  unfold dA drT
  by_cases h1 : a < r.length
  · rw [if_pos h1]
    by_cases h2 : b < r.length
    · rw [if_pos h2, if_pos ⟨h1, h2⟩]
    · rw [if_neg h2, if_neg (by omega)]
  · rw [if_neg h1, if_neg (by omega), if_neg (by omega)]
theorem drT_in (hi : a < r.length) (hk : b < r.length) : drT r a b = drp r a b := if_pos ⟨hi, hk⟩
end
def outAt (r : List RvT) (i k : Nat) : Bool := decide (drp r i k > (r.getD i default).ht) || decide (drp r k i > 9000 - (r.getD i default).ht)
def outS (r : List RvT) (i : Nat) : Bool := (List.range r.length).any (outAt r i)
def conS (r : List RvT) (i k : Nat) : Bool := if drp r i k = -1 then decide (drp r k i ≠ -1) && decide ((r.getD k default).ht - (r.getD i default).ht < drp r k i) else decide ((r.getD i default).ht - (r.getD k default).ht < drp r i k)
def corAt (r : List RvT) (s i k : Nat) : Bool := s.testBit k || !conS r i k
def corIn (r : List RvT) (s i : Nat) : Bool := s.testBit i || (!outS r i && (List.range i).all (corAt r s i))
def corS (r : List RvT) (s : Nat) : Bool := (List.range r.length).all (corIn r s)
section
variable {r : List RvT} {s i k : Nat}
theorem out_t (hk : k < r.length) (h : drp r i k > (r.getD i default).ht ∨ drp r k i > 9000 - (r.getD i default).ht) : outS r i = true := by
  unfold outS
  rw [List.any_eq_true]
  refine ⟨k, List.mem_range.2 hk, ?_⟩
  unfold outAt
  rcases h with h | h
  · rw [decide_eq_true h]; rfl
  · rw [decide_eq_true h, Bool.or_true]
theorem out_f (h : ∀ k, k < r.length → ¬ (drp r i k > (r.getD i default).ht) ∧ ¬ (drp r k i > 9000 - (r.getD i default).ht)) : outS r i = false := by
  unfold outS
  rw [List.any_eq_false]
  intro k hk
  obtain ⟨h1, h2⟩ := h k (List.mem_range.1 hk)
  unfold outAt
  rw [decide_eq_false h1, decide_eq_false h2]; simp
theorem cor_f (hi : i < r.length) (h1 : s.testBit i = false) (h : outS r i = true) : corS r s = false := by
  unfold corS
  rw [List.all_eq_false]
  exact ⟨i, List.mem_range.2 hi, by unfold corIn; rw [h1, h]; simp⟩
theorem cor_f2 (hi : i < r.length) (hk : k < i) (h1 : s.testBit i = false) (h2 : s.testBit k = false) (h : conS r i k = true) : corS r s = false := by
  unfold corS
  rw [List.all_eq_false]
  refine ⟨i, List.mem_range.2 hi, ?_⟩
  have : (List.range i).all (corAt r s i) = false := by
    rw [List.all_eq_false]
    exact ⟨k, List.mem_range.2 hk, by unfold corAt; rw [h2, h]; simp⟩
  unfold corIn
  rw [h1, this]; simp
theorem cor_in1 (h : s.testBit i = true) : corIn r s i = true := by unfold corIn; rw [h]; rfl
theorem cor_in2 (h : outS r i = false) (h2 : ∀ k, k < i → corAt r s i k = true) : corIn r s i = true := by
  have : (List.range i).all (corAt r s i) = true := List.all_eq_true.2 fun k hk => h2 k (List.mem_range.1 hk)
  unfold corIn
  rw [h, this]; simp
theorem cor_t (h : ∀ i, i < r.length → corIn r s i = true) : corS r s = true := List.all_eq_true.2 fun i hi => h i (List.mem_range.1 hi)
end
end Go.Proofs.YtekkpcpbnonkaaaGreatDoor.Rv
end
section
set_option linter.unusedSimpArgs false
set_option linter.unusedVariables false
namespace Go.Proofs.YtekkpcpbnonkaaaGreatDoor.Rv
open Go
theorem shl_val {n : Nat} (hn : n ≤ 9) : IntKind.i64.wrap (1 * 2 ^ min (Int.toNat (n : Int)) IntKind.i64.bits) = ((2 ^ n : Nat) : Int) := by
  have : n = 0 ∨ n = 1 ∨ n = 2 ∨ n = 3 ∨ n = 4 ∨ n = 5 ∨ n = 6 ∨ n = 7 ∨ n = 8 ∨ n = 9 := by omega
  rcases this with h | h | h | h | h | h | h | h | h | h <;> subst h <;> decide
theorem pow_bd {n : Nat} (hn : n ≤ 9) : 1 ≤ 2 ^ n ∧ 2 ^ n ≤ 512 := by
  have : n = 0 ∨ n = 1 ∨ n = 2 ∨ n = 3 ∨ n = 4 ∨ n = 5 ∨ n = 6 ∨ n = 7 ∨ n = 8 ∨ n = 9 := by omega
  rcases this with h | h | h | h | h | h | h | h | h | h <;> subst h <;> decide
theorem ofn {n : Nat} (h : n < 2 ^ 63) : (BitVec.ofInt IntKind.i64.bits (n : Int)).toNat = n := by
  show (BitVec.ofInt 64 (n : Int)).toNat = n
  rw [BitVec.toNat_ofInt]
  have : ((n : Int) % ((2 ^ 64 : Nat) : Int)) = ((n % 2 ^ 64 : Nat) : Int) := by rw [Int.natCast_emod]
  rw [this, Int.toNat_natCast]
  exact Nat.mod_eq_of_lt (by omega)
theorem and_nat {a b : Nat} (ha : a < 2 ^ 63) (hb : b < 2 ^ 63) : IntKind.i64.wrap (BitVec.ofInt IntKind.i64.bits (a : Int) &&& BitVec.ofInt IntKind.i64.bits (b : Int)).toNat = ((a &&& b : Nat) : Int) := by
  rw [BitVec.toNat_and, ofn ha, ofn hb]
  have := Nat.and_le_left (n := a) (m := b)
  exact IntWalk.i64_in _ (by omega)
theorem or_nat {a b : Nat} (ha : a < 2 ^ 62) (hb : b < 2 ^ 62) : IntKind.i64.wrap (BitVec.ofInt IntKind.i64.bits (a : Int) ||| BitVec.ofInt IntKind.i64.bits (b : Int)).toNat = ((a ||| b : Nat) : Int) := by
  rw [BitVec.toNat_or, ofn (by omega), ofn (by omega)]
  have := Nat.or_lt_two_pow ha hb
  exact IntWalk.i64_in _ (by omega)
theorem fdiv_nat {a b : Nat} : ((a : Int).fdiv (b : Int)) = ((a / b : Nat) : Int) := by
  rw [Int.fdiv_eq_ediv_of_nonneg _ (Int.natCast_nonneg b)]; rfl
theorem bit_val {s i : Nat} (hs : s < 512) (hi : i < 9) : IntKind.i64.wrap (BitVec.ofInt IntKind.i64.bits (((s : Nat) : Int).fdiv (2 ^ min (Int.toNat ((i : Nat) : Int)) IntKind.i64.bits)) &&& BitVec.ofInt IntKind.i64.bits 1).toNat = if s.testBit i then 1 else 0 := by
  rw [Int.toNat_natCast, Nat.min_eq_left (show i ≤ IntKind.i64.bits by show i ≤ 64; omega)]
  have e : ((2 : Int) ^ i) = ((2 ^ i : Nat) : Int) := by rw [Int.natCast_pow]; rfl
  have hd : s / 2 ^ i ≤ s := Nat.div_le_self _ _
  have h1 := and_nat (a := s / 2 ^ i) (b := 1) (by omega) (by omega)
  rw [e, fdiv_nat, show (1 : Int) = ((1 : Nat) : Int) from rfl, h1, Nat.and_one_is_mod, Nat.testBit_eq_decide_div_mod_eq]
  by_cases h : s / 2 ^ i % 2 = 1
  · rw [h]; rfl
  · rw [show s / 2 ^ i % 2 = 0 by omega]; rfl
def pcS (s : Nat) : Nat := (bitsL (s : Int)).length
def corF (r : List RvT) : Nat → Nat × List Int
  | 0 => (r.length, [])
  | s + 1 => if pcS s > (corF r s).1 ∨ corS r s = false then corF r s else if pcS s < (corF r s).1 then (pcS s, [(s : Int)]) else ((corF r s).1, (corF r s).2 ++ [(s : Int)])
def corL (r : List RvT) : List Int := (corF r (2 ^ r.length)).2
def fstS (l : List Int) : Nat → Int
  | 0 => 0
  | k + 1 => if k = 0 ∨ cmpL (bitsL (l.getD k default)) (bitsL (fstS l k)) < 0 then l.getD k default else fstS l k
def allF (n : Nat) (l : List Int) : Nat → Nat
  | 0 => 2 ^ n - 1
  | k + 1 => allF n l k &&& (l.getD k default).toNat
def somF (l : List Int) : Nat → Nat
  | 0 => 0
  | k + 1 => somF l k ||| (l.getD k default).toNat
section
variable {r : List RvT} {s k n : Nat} {l : List Int}
theorem corF_skip (h : pcS s > (corF r s).1 ∨ corS r s = false) : corF r (s + 1) = corF r s := by rw [corF, if_pos h]
theorem corF_new (h1 : ¬ pcS s > (corF r s).1) (h2 : corS r s = true) (h : pcS s < (corF r s).1) : corF r (s + 1) = (pcS s, [(s : Int)]) := by
  rw [corF, if_neg (by rintro (h3 | h3); exact h1 h3; rw [h2] at h3; cases h3), if_pos h]
theorem corF_more (h1 : ¬ pcS s > (corF r s).1) (h2 : corS r s = true) (h : ¬ pcS s < (corF r s).1) : corF r (s + 1) = ((corF r s).1, (corF r s).2 ++ [(s : Int)]) := by
  rw [corF, if_neg (by rintro (h3 | h3); exact h1 h3; rw [h2] at h3; cases h3), if_neg h]
theorem corF_le : ∀ s, (corF r s).1 ≤ r.length ∧ (corF r s).2.length ≤ s
  | 0 => ⟨Nat.le_refl _, Nat.le_refl _⟩
  | s + 1 => by
    have := corF_le s
    rw [corF]
    split
    · omega
    · split
      · simp only [List.length_singleton]; omega
      · simp only [List.length_append, List.length_singleton]; omega
theorem corF_mem : ∀ s, ∀ x ∈ (corF r s).2, 0 ≤ x ∧ x < s
  | 0, x, hx => by simp [corF] at hx
  | s + 1, x, hx => by
    have := corF_mem s
    rw [corF] at hx
    split at hx
    · have := this x hx; omega
    · split at hx
      · simp at hx; omega
      · simp at hx
        rcases hx with hx | hx
        · have := this x hx; omega
        · omega
theorem corL_mem (g : Good r) {x : Int} (h : x ∈ corL r) : 0 ≤ x ∧ x ≤ 511 := by
  have := corF_mem _ x h
  have := pow_bd g.n.2
  omega
theorem corL_len (g : Good r) : (corL r).length ≤ 512 := by
  have := (corF_le (r := r) (2 ^ r.length)).2
  have := pow_bd g.n.2
  unfold corL; omega
theorem corL_at (g : Good r) (hk : k < (corL r).length) : 0 ≤ (corL r).getD k default ∧ (corL r).getD k default ≤ 511 := corL_mem g (K.gt_mem hk)
theorem fst_bd (h : ∀ x ∈ l, 0 ≤ x ∧ x ≤ 511) : ∀ k, k ≤ l.length → 0 ≤ fstS l k ∧ fstS l k ≤ 511
  | 0, _ => by unfold fstS; omega
  | k + 1, hk => by
    have h1 := fst_bd h k (by omega)
    have h2 := h _ (K.gt_mem (show k < l.length by omega))
    unfold fstS
    split <;> omega
theorem all_bd (hn : n ≤ 9) : ∀ k, allF n l k ≤ 511
  | 0 => by have := pow_bd hn; unfold allF; omega
  | k + 1 => by
    have := all_bd hn k
    unfold allF
    have := Nat.and_le_left (n := allF n l k) (m := (l.getD k default).toNat)
    omega
theorem som_bd (h : ∀ x ∈ l, 0 ≤ x ∧ x ≤ 511) : ∀ k, k ≤ l.length → somF l k ≤ 511
  | 0, _ => by unfold somF; omega
  | k + 1, hk => by
    have h1 := som_bd h k (by omega)
    have h2 := h _ (K.gt_mem (show k < l.length by omega))
    unfold somF
    have : somF l k ||| (l.getD k default).toNat < 2 ^ 9 := Nat.or_lt_two_pow (by omega) (by omega)
    omega
end
def fewL (r : List RvT) : List Int := if (chk r).2.2 ≠ 0 then [] else bitsL (fstS (corL r) (corL r).length)
def mustL (r : List RvT) : List Int := if (chk r).2.2 ≠ 0 then [] else bitsL (allF r.length (corL r) (corL r).length : Nat)
def mayL (r : List RvT) : List Int := if (chk r).2.2 ≠ 0 then [] else bitsL (somF (corL r) (corL r).length : Nat)
end Go.Proofs.YtekkpcpbnonkaaaGreatDoor.Rv

namespace Go.Proofs.YtekkpcpbnonkaaaGreatDoor.Rv
open Go
abbrev StP := List Int × Int
def chX (cs : List Int) (n : Nat) : List Int := if n = cs.length then cs ++ [0] else cs
def okP (r : List RvT) (i : Nat) (ch : Int) : Bool := !((bitsL ch).any fun k => !conS r i k.toNat)
def setX (cs : List Int) (n i : Nat) : List Int := (chX cs n).set n ((((chX cs n).getD n default).toNat ||| 2 ^ i : Nat) : Int)
def loopP (rec : List Int → List Int → StP → StP) (r : List RvT) (cs l : List Int) (st : StP) : Nat → StP
  | 0 => st
  | n + 1 => if okP r l.length ((chX cs n).getD n default) then rec (setX cs n l.length) (l ++ [(n : Int)]) (loopP rec r cs l st n) else loopP rec r cs l st n
def fillP (r : List RvT) : Nat → List Int → List Int → StP → StP
  | 0, cs, l, st => if st.2 ≤ cs.length then st else (l, cs.length)
  | f + 1, cs, l, st => if st.2 ≤ cs.length then st else if outS r l.length = true then fillP r f cs (l ++ [-1]) st else loopP (fillP r f) r cs l st (cs.length + 1)
structure CsOk (cs : List Int) (i : Nat) : Prop where
  l : cs.length ≤ i
  b : ∀ x ∈ cs, 1 ≤ x ∧ x < 2 ^ i
section
variable {r : List RvT} {cs l : List Int} {st : StP} {n i f : Nat}
theorem fillP_cut (h : st.2 ≤ cs.length) : ∀ f, fillP r f cs l st = st
  | 0 => by rw [fillP, if_pos h]
  | f + 1 => by rw [fillP, if_pos h]
theorem fillP_end (h : ¬ st.2 ≤ cs.length) : fillP r 0 cs l st = (l, (cs.length : Int)) := by rw [fillP, if_neg h]
theorem fillP_out (h : ¬ st.2 ≤ cs.length) (ho : outS r l.length = true) : fillP r (f + 1) cs l st = fillP r f cs (l ++ [-1]) st := by rw [fillP, if_neg h, if_pos ho]
theorem fillP_loop (h : ¬ st.2 ≤ cs.length) (ho : outS r l.length = false) : fillP r (f + 1) cs l st = loopP (fillP r f) r cs l st (cs.length + 1) := by rw [fillP, if_neg h, if_neg (by rw [ho]; decide)]
theorem loopP_yes {rec : List Int → List Int → StP → StP} (h : okP r l.length ((chX cs n).getD n default) = true) : loopP rec r cs l st (n + 1) = rec (setX cs n l.length) (l ++ [(n : Int)]) (loopP rec r cs l st n) := by rw [loopP, if_pos h]
theorem loopP_no {rec : List Int → List Int → StP → StP} (h : okP r l.length ((chX cs n).getD n default) = false) : loopP rec r cs l st (n + 1) = loopP rec r cs l st n := by rw [loopP, if_neg (by rw [h]; decide)]
theorem pow_cast : ((2 ^ i : Nat) : Int) = 2 ^ i := by rw [Int.natCast_pow]; rfl
theorem CsOk.up (h : CsOk cs i) : CsOk cs (i + 1) := ⟨by have := h.l; omega, fun x hx => by have := h.b x hx; rw [Int.pow_succ]; omega⟩
theorem CsOk.nil : CsOk [] i := ⟨Nat.zero_le _, by simp⟩
theorem chX_len (hn : n ≤ cs.length) : (chX cs n).length = if n = cs.length then cs.length + 1 else cs.length := by
  unfold chX; split
  · rw [List.length_append]; rfl
  · rfl
theorem chX_lt (hn : n ≤ cs.length) : n < (chX cs n).length := by rw [chX_len hn]; split <;> omega
theorem chX_le (hn : n ≤ cs.length) : (chX cs n).length ≤ cs.length + 1 := by rw [chX_len hn]; split <;> omega
theorem chX_at (hn : n < cs.length) : (chX cs n).getD n default = cs.getD n default := by unfold chX; rw [if_neg (by omega)]
theorem chX_new (hn : n = cs.length) : (chX cs n).getD n default = 0 := by
  unfold chX; rw [if_pos hn, hn]
  simp [List.getD_eq_getElem?_getD]
theorem chX_bd (h : CsOk cs i) (hn : n ≤ cs.length) : 0 ≤ (chX cs n).getD n default ∧ (chX cs n).getD n default < 2 ^ i := by
  have h2 : (0 : Int) < 2 ^ i := by rw [← pow_cast]; have := Nat.two_pow_pos i; omega
  rcases Nat.lt_or_ge n cs.length with h1 | h1
  · rw [chX_at h1]; have := h.b _ (K.gt_mem h1); omega
  · rw [chX_new (by omega)]; omega
theorem chX_zero (h : CsOk cs i) (hn : n ≤ cs.length) : (chX cs n).getD n default = 0 ↔ n = cs.length := by
  constructor
  · intro e
    rcases Nat.lt_or_ge n cs.length with h1 | h1
    · rw [chX_at h1] at e; have := h.b _ (K.gt_mem h1); omega
    · omega
  · exact chX_new
theorem chX_old (hn : n < cs.length) : chX cs n = cs := by unfold chX; rw [if_neg (by omega)]
theorem setX_len : (setX cs n i).length = (chX cs n).length := by unfold setX; rw [List.length_set]
theorem or_pow {a : Nat} (h : a < 2 ^ i) : a ||| 2 ^ i = a + 2 ^ i := by
  have := Nat.two_pow_add_eq_or_of_lt h 1
  rw [Nat.mul_one] at this
  rw [Nat.or_comm, ← this]; omega
theorem ch_nat (h : CsOk cs i) (hn : n ≤ cs.length) : ((chX cs n).getD n default).toNat < 2 ^ i := by
  have := chX_bd h hn
  have e := pow_cast (i := i)
  omega
theorem setX_new (hn : n = cs.length) : setX cs n i = cs ++ [((2 ^ i : Nat) : Int)] := by
  unfold setX
  rw [chX_new hn]
  unfold chX
  rw [if_pos hn, hn, List.set_append_right _ _ (Nat.le_refl _), Nat.sub_self]
  simp
theorem setX_old (hn : n < cs.length) : setX cs n i = cs.set n (((cs.getD n default).toNat ||| 2 ^ i : Nat) : Int) := by
  unfold setX
  rw [chX_at hn, chX_old hn]
theorem setX_ok (h : CsOk cs i) (hn : n ≤ cs.length) : CsOk (setX cs n i) (i + 1) := by
  have hp := pow_cast (i := i)
  have h2 := Nat.two_pow_pos i
  refine ⟨?_, fun x hx => ?_⟩
  · rw [setX_len]; have := chX_le hn; have := h.l; omega
  · rcases Nat.lt_or_ge n cs.length with h1 | h1
    · rw [setX_old h1] at hx
      rcases List.mem_or_eq_of_mem_set hx with hx | hx
      · have := h.b x hx; rw [Int.pow_succ]; omega
      · have h3 := ch_nat h hn
        rw [chX_at h1] at h3
        rw [hx, or_pow h3, Int.pow_succ, ← hp]
        omega
    · rw [setX_new (by omega)] at hx
      rcases List.mem_append.1 hx with hx | hx
      · have := h.b x hx; rw [Int.pow_succ]; omega
      · simp only [List.mem_singleton] at hx
        rw [hx, Int.pow_succ, ← hp]; omega
theorem setX_at (hn : n ≤ cs.length) : (setX cs n i).getD n default = ((((chX cs n).getD n default).toNat ||| 2 ^ i : Nat) : Int) := by
  have := chX_lt hn
  unfold setX
  simp [List.getD_eq_getElem?_getD, List.getElem?_set, this]
theorem setX_back (hn : n ≤ cs.length) : (setX cs n i).set n ((chX cs n).getD n default) = chX cs n := by
  have := chX_lt hn
  unfold setX
  rw [List.set_set]
  apply List.ext_getElem?
  intro j
  rw [List.getElem?_set]
  split
  · rename_i e
    subst e
    first
      | (rw [if_pos this, List.getD_eq_getElem?_getD, List.getElem?_eq_getElem this]; rfl)
      | (rw [List.getD_eq_getElem?_getD, List.getElem?_eq_getElem this]; rfl)
  · rfl
theorem ch_bits {ch : Int} (h0 : 0 ≤ ch) (h : ch < 2 ^ i) {x : Int} (hx : x ∈ bitsL ch) : 0 ≤ x ∧ x < i := by
  unfold bitsL at hx
  obtain ⟨j, _, hb, rfl⟩ := mem_sel.1 hx
  refine ⟨by omega, ?_⟩
  by_cases hj : j < i
  · omega
  · have hp := pow_cast (i := i)
    have : ch.toNat < 2 ^ i := by omega
    have h2 : 2 ^ i ≤ 2 ^ j := Nat.pow_le_pow_right (by decide) (by omega)
    rw [Nat.testBit_lt_two_pow (by omega)] at hb
    cases hb
end
def anC (i c : Nat) : Bool := decide (c < 2 ^ i) == false || decide (IntKind.i64.wrap (BitVec.ofInt IntKind.i64.bits (((c ||| 2 ^ i : Nat) : Nat) : Int) &&& ~~~BitVec.ofInt IntKind.i64.bits ((2 ^ i : Nat) : Int)).toNat = (c : Int))
theorem an_0 : (List.range 9).all (fun i => (List.range 128).all fun c => anC i (c + 0)) = true := by decide +kernel
theorem an_1 : (List.range 9).all (fun i => (List.range 128).all fun c => anC i (c + 128)) = true := by decide +kernel
theorem an_2 : (List.range 9).all (fun i => (List.range 128).all fun c => anC i (c + 256)) = true := by decide +kernel
theorem an_3 : (List.range 9).all (fun i => (List.range 128).all fun c => anC i (c + 384)) = true := by decide +kernel
theorem andnot_val {i c : Nat} (hi : i < 9) (hc : c < 2 ^ i) : IntKind.i64.wrap (BitVec.ofInt IntKind.i64.bits (((c ||| 2 ^ i : Nat) : Nat) : Int) &&& ~~~BitVec.ofInt IntKind.i64.bits ((2 ^ i : Nat) : Int)).toNat = (c : Int) := by
  have h9 : c < 512 := by
    have : 2 ^ i ≤ 2 ^ 9 := Nat.pow_le_pow_right (by decide) (by omega)
    omega
  have key : ∀ m, (List.range 9).all (fun i => (List.range 128).all fun c => anC i (c + m)) = true → m ≤ c → c < m + 128 → anC i c = true := fun m h h1 h2 => by
    have := List.all_eq_true.1 (List.all_eq_true.1 h i (List.mem_range.2 hi)) (c - m) (List.mem_range.2 (by omega))
    rwa [show c - m + m = c by omega] at this
  have h : anC i c = true := by
    rcases (show c < 128 ∨ (128 ≤ c ∧ c < 256) ∨ (256 ≤ c ∧ c < 384) ∨ 384 ≤ c by omega) with h | h | h | h
    · exact key 0 an_0 (by omega) (by omega)
    · exact key 128 an_1 (by omega) (by omega)
    · exact key 256 an_2 (by omega) (by omega)
    · exact key 384 an_3 (by omega) (by omega)
  unfold anC at h
  rw [decide_eq_true hc] at h
  simpa using h
def prfS (r : List RvT) : StP := fillP r r.length [] [] ([], (r.length : Int) + 1)
def prfL (r : List RvT) : List Int := if (chk r).2.2 ≠ 0 then [] else (prfS r).1
end Go.Proofs.YtekkpcpbnonkaaaGreatDoor.Rv
end
section
set_option linter.unusedSimpArgs false
set_option linter.unusedVariables false
namespace Go.Proofs.YtekkpcpbnonkaaaGreatDoor.Rv
open Go
def neverS : Int := 1099511627776
def mthS (r : List RvT) : Nat := ((List.range r.length).find? fun i => decide ((r.getD i default).dn = -1)).getD 0
def lev3 (r : List RvT) (i : Nat) : List Int := [(r.getD i default).ht - DM r i, 9000 - DM r i, 0]
def levU (r : List RvT) : Nat → List Int
  | 0 => []
  | i + 1 => levU r i ++ lev3 r i
def sortS (l : List Int) : List Int := l.mergeSort fun x y => decide (x ≤ y)
def levS (r : List RvT) : List Int := sortS (levU r r.length)
def skipB (r : List RvT) (fx : List Int) (a : Nat) (low l : Int) : Bool := decide (l < low) || (decide (¬ (0 ≤ l + DM r a ∧ l + DM r a ≤ 9000)) || (decide (a < fx.length) && decide (fx.getD a default ≠ l + DM r a)))
def ownC (r : List RvT) (a : Nat) (l : Int) : Int := max (l + DM r a - (r.getD a default).ht) ((r.getD a default).ht - (l + DM r a))
def sumF (rec : Nat → Int → Int) (r : List RvT) (a : Nat) (l : Int) : Nat → Int
  | 0 => ownC r a l
  | k + 1 => if (r.getD k default).dn = (a : Int) then sumF rec r a l k + rec k l else sumF rec r a l k
def minF (rec : Nat → Int → Int) (r : List RvT) (lv fx : List Int) (a : Nat) (low : Int) : Nat → Int
  | 0 => neverS
  | j + 1 => if skipB r fx a low (lv.getD j default) = true then minF rec r lv fx a low j else min (minF rec r lv fx a low j) (sumF rec r a (lv.getD j default) r.length)
def costF (r : List RvT) (lv fx : List Int) : Nat → Nat → Int → Int
  | 0 => fun _ _ => neverS
  | f + 1 => fun a low => minF (costF r lv fx f) r lv fx a low lv.length
def askS (r : List RvT) (lv fx : List Int) : Int := costF r lv fx (r.length + 1) (mthS r) (-9000)
def hgtF (r : List RvT) (ch : Int) : Nat → List Int
  | 0 => []
  | i + 1 => hgtF r ch i ++ [((levS r).find? fun l => decide (askS r (levS r) (hgtF r ch i ++ [l + DM r i]) = ch)).getD ((levS r).getD ((levS r).length - 1) default) + DM r i]
def chgS (r : List RvT) : Int := askS r (levS r) []
def lstC (r : List RvT) : Int := if (chk r).2.2 ≠ 0 then 0 else chgS r
def lstL (r : List RvT) : List Int := if (chk r).2.2 ≠ 0 then [] else hgtF r (chgS r) r.length
section
variable {r : List RvT} {lv fx : List Int} {rec : Nat → Int → Int} {a i j k f : Nat} {l low : Int}
theorem mth_is (g : Good r) : mthS r < r.length ∧ (r.getD (mthS r) default).dn = -1 ∧ ∀ i, i < r.length → (r.getD i default).dn = -1 → i = mthS r := by
  obtain ⟨k, hk, hd, hu⟩ := g.m
  have e : mthS r = k := by
    unfold mthS
    have : (List.range r.length).find? (fun i => decide ((r.getD i default).dn = -1)) = some k := by
      rw [List.find?_range_eq_some]
      exact ⟨decide_eq_true hd, List.mem_range.2 hk, fun j hj => by
        have : (r.getD j default).dn ≠ -1 := fun h => by have := hu j (by omega) h; omega
        rw [decide_eq_false this]; rfl⟩
    rw [this]; rfl
  rw [e]; exact ⟨hk, hd, hu⟩
theorem bl_mth (g : Good r) (hi : i < r.length) : bl r i (mthS r) := by
  have h := dep_is g hi
  have := (mth_is g).2.2 _ (stps_lt g hi (dep r i)) h.2.1
  exact ⟨dep r i, this⟩
theorem drp_mth (g : Good r) (hi : i < r.length) : drp r i (mthS r) = DM r i := by
  rw [drp_bl g hi (bl_mth g hi), DM_m (mth_is g).2.1]; omega
theorem levU_len : ∀ i, (levU r i).length = 3 * i
  | 0 => rfl
  | i + 1 => by rw [levU, List.length_append, levU_len i]; show 3 * i + 3 = _; omega
theorem levU_mem (g : Good r) : ∀ i, i ≤ r.length → ∀ x ∈ levU r i, -4500 ≤ x ∧ x ≤ 9000
  | 0, _, x, hx => by simp [levU] at hx
  | i + 1, hi, x, hx => by
    rw [levU, List.mem_append] at hx
    have h1 := g.p i (by omega)
    have h2 := DM_le g (show i < r.length by omega)
    rcases hx with hx | hx
    · exact levU_mem g i (by omega) x hx
    · simp only [lev3, List.mem_cons, List.not_mem_nil, or_false] at hx
      omega
theorem sort_perm {l : List Int} : (sortS l).Perm l := List.mergeSort_perm _ _
theorem levS_len : (levS r).length = 3 * r.length := by unfold levS; rw [sort_perm.length_eq, levU_len]
theorem levS_mem (g : Good r) {x : Int} (h : x ∈ levS r) : -4500 ≤ x ∧ x ≤ 9000 := levU_mem g _ (Nat.le_refl _) x (sort_perm.mem_iff.1 h)
theorem levS_at (g : Good r) (hj : j < (levS r).length) : -4500 ≤ (levS r).getD j default ∧ (levS r).getD j default ≤ 9000 := levS_mem g (K.gt_mem hj)
theorem minF_skip (h : skipB r fx a low (lv.getD j default) = true) : minF rec r lv fx a low (j + 1) = minF rec r lv fx a low j := by rw [minF, if_pos h]
theorem minF_more (h : skipB r fx a low (lv.getD j default) = false) : minF rec r lv fx a low (j + 1) = min (minF rec r lv fx a low j) (sumF rec r a (lv.getD j default) r.length) := by rw [minF, if_neg (by rw [h]; decide)]
theorem sumF_yes (h : (r.getD k default).dn = (a : Int)) : sumF rec r a l (k + 1) = sumF rec r a l k + rec k l := by rw [sumF, if_pos h]
theorem sumF_no (h : (r.getD k default).dn ≠ (a : Int)) : sumF rec r a l (k + 1) = sumF rec r a l k := by rw [sumF, if_neg h]
theorem skip_no (h : skipB r fx a low l = false) : ¬ l < low ∧ (0 ≤ l + DM r a ∧ l + DM r a ≤ 9000) ∧ (a < fx.length → fx.getD a default = l + DM r a) := by
  unfold skipB at h
  rw [Bool.or_eq_false_iff, Bool.or_eq_false_iff, decide_eq_false_iff_not, decide_eq_false_iff_not, Bool.and_eq_false_iff, decide_eq_false_iff_not, decide_eq_false_iff_not] at h
  obtain ⟨h1, h2, h3⟩ := h
  refine ⟨h1, Decidable.not_not.1 h2, fun h4 => ?_⟩
  rcases h3 with h3 | h3
  · exact absurd h4 h3
  · exact Decidable.not_not.1 h3
theorem skip_n (h1 : ¬ l < low) (h2 : 0 ≤ l + DM r a ∧ l + DM r a ≤ 9000) (h3 : a < fx.length → fx.getD a default = l + DM r a) : skipB r fx a low l = false := by
  unfold skipB
  rw [decide_eq_false h1, decide_eq_false (fun h => h h2)]
  by_cases h4 : a < fx.length
  · rw [decide_eq_true h4, decide_eq_false (fun h => h (h3 h4))]; rfl
  · rw [decide_eq_false h4]; rfl
theorem skip_y (h : l < low ∨ ¬ (0 ≤ l + DM r a ∧ l + DM r a ≤ 9000) ∨ (a < fx.length ∧ fx.getD a default ≠ l + DM r a)) : skipB r fx a low l = true := by
  unfold skipB
  rcases h with h | h | ⟨h1, h2⟩
  · rw [decide_eq_true h]; rfl
  · rw [decide_eq_true h]; simp
  · rw [decide_eq_true h1, decide_eq_true h2]; simp
theorem ownC_bd (g : Good r) (ha : a < r.length) (h : 0 ≤ l + DM r a ∧ l + DM r a ≤ 9000) : 0 ≤ ownC r a l ∧ ownC r a l ≤ 9000 := by
  have := g.p a ha
  unfold ownC; omega
def recB (r : List RvT) (rec : Nat → Int → Int) : Prop := ∀ k, k < r.length → ∀ l, 0 ≤ rec k l ∧ rec k l ≤ neverS
theorem sumF_bd' (hr : recB r rec) (h0 : 0 ≤ ownC r a l ∧ ownC r a l ≤ 9000) : ∀ k, k ≤ r.length → 0 ≤ sumF rec r a l k ∧ sumF rec r a l k ≤ 9000 + k * neverS
  | 0, _ => by simp only [sumF]; omega
  | k + 1, hk => by
    have h1 := sumF_bd' hr h0 k (by omega)
    have h2 := hr k (by omega) l
    rw [sumF]
    have e : ((k + 1 : Nat) : Int) * neverS = (k : Int) * neverS + neverS := by push_cast; rw [Int.add_mul, Int.one_mul]
    rw [e]
    have : 0 ≤ neverS := by decide
    split <;> omega
theorem minF_bd' (g : Good r) (ha : a < r.length) (hr : recB r rec) : ∀ j, 0 ≤ minF rec r lv fx a low j ∧ minF rec r lv fx a low j ≤ neverS
  | 0 => by simp only [minF]; exact ⟨by decide, Int.le_refl _⟩
  | j + 1 => by
    have h1 := minF_bd' g ha hr j
    rw [minF]
    split
    · exact h1
    · rename_i h
      have h2 := skip_no (Bool.eq_false_iff.2 h)
      have h3 := sumF_bd' hr (ownC_bd g ha h2.2.1) r.length (Nat.le_refl _)
      omega
theorem cost_bd (g : Good r) : ∀ f, recB r (costF r lv fx f)
  | 0 => fun k _ l => ⟨by show (0 : Int) ≤ neverS; decide, Int.le_refl _⟩
  | f + 1 => fun k hk l => minF_bd' g hk (cost_bd g f) _
end
def spotV (a l : Int) : Value := .agg #[.int .i64 a, .int .i64 l]
def KnOk (r : List RvT) (lv fx : List Int) (kvs : List (Value × Int)) : Prop := ∀ p ∈ kvs, ∃ (a : Nat) (l : Int), p.1 = spotV a l ∧ a < r.length ∧ (-9000 ≤ l ∧ l ≤ 9000) ∧ p.2 = costF r lv fx (r.length + 1 - dep r a) a l
theorem kn_nil {r : List RvT} {lv fx : List Int} : KnOk r lv fx [] := by intro p hp; simp at hp
theorem spot_inj {a a' l l' : Int} (h : spotV a l = spotV a' l') : a = a' ∧ l = l' := by
  unfold spotV at h
  injection h with h
  have h2 := congrArg Array.toList h
  simp only [List.cons.injEq] at h2
  obtain ⟨h3, h4, _⟩ := h2
  injection h3 with _ h3
  injection h4 with _ h4
  exact ⟨h3, h4⟩
theorem kn_at {r : List RvT} {lv fx : List Int} {kvs : List (Value × Int)} {a : Nat} {l n : Int} (h : KnOk r lv fx kvs) (hm : (spotV a l, n) ∈ kvs) : n = costF r lv fx (r.length + 1 - dep r a) a l := by
  obtain ⟨a', l', e, _, _, hv⟩ := h _ hm
  obtain ⟨h1, h2⟩ := spot_inj e
  have : a = a' := by omega
  subst this; subst h2
  exact hv
theorem kn_put {r : List RvT} {lv fx : List Int} {kvs kvs' : List (Value × Int)} {a : Nat} {l : Int} (h : KnOk r lv fx kvs) (ha : a < r.length) (hl : -9000 ≤ l ∧ l ≤ 9000) (hp : K.PutQ kvs (spotV a l) (costF r lv fx (r.length + 1 - dep r a) a l) kvs') : KnOk r lv fx kvs' := by
  intro p hpm
  rcases hp with ⟨_, rfl⟩ | ⟨j, n, _, rfl⟩
  · rcases List.mem_append.1 hpm with h2 | h2
    · exact h p h2
    · simp at h2; subst h2; exact ⟨a, l, rfl, ha, hl, rfl⟩
  · rcases List.mem_or_eq_of_mem_set hpm with h2 | h2
    · exact h p h2
    · subst h2; exact ⟨a, l, rfl, ha, hl, rfl⟩
theorem find_at {p : Int → Bool} {l : List Int} {j : Nat} (hj : j < l.length) (h0 : ∀ k, k < j → p (l.getD k default) = false) (h1 : p (l.getD j default) = true) : l.find? p = some (l.getD j default) := by
  rw [List.find?_eq_some_iff_getElem]
  have e : l.getD j default = l[j] := by rw [List.getD_eq_getElem?_getD, List.getElem?_eq_getElem hj]; rfl
  refine ⟨h1, j, hj, e.symm, fun k hk => ?_⟩
  have e2 : l.getD k default = l[k] := by rw [List.getD_eq_getElem?_getD, List.getElem?_eq_getElem (by omega)]; rfl
  rw [← e2, h0 k hk]; rfl
theorem find_no {p : Int → Bool} {l : List Int} (h0 : ∀ k, k < l.length → p (l.getD k default) = false) : l.find? p = none := by
  rw [List.find?_eq_none]
  intro x hx
  obtain ⟨k, hk, rfl⟩ := List.mem_iff_getElem.1 hx
  have e2 : l.getD k default = l[k] := by rw [List.getD_eq_getElem?_getD, List.getElem?_eq_getElem hk]; rfl
  rw [← e2, h0 k hk]; decide
section
variable {r : List RvT} {ch : Int} {i j : Nat}
theorem hgt_len : ∀ i, (hgtF r ch i).length = i
  | 0 => rfl
  | i + 1 => by rw [hgtF, List.length_append, hgt_len i]; rfl
def tryL (r : List RvT) (ch : Int) (i j : Nat) : List Int := hgtF r ch i ++ [(levS r).getD j default + DM r i]
theorem try_len : (tryL r ch i j).length = i + 1 := by unfold tryL; rw [List.length_append, hgt_len]; rfl
theorem hgt_found (hj : j < (levS r).length) (h0 : ∀ k, k < j → askS r (levS r) (tryL r ch i k) ≠ ch) (h1 : askS r (levS r) (tryL r ch i j) = ch) : hgtF r ch (i + 1) = tryL r ch i j := by
  rw [hgtF, find_at (p := fun l => decide (askS r (levS r) (hgtF r ch i ++ [l + DM r i]) = ch)) hj (fun k hk => decide_eq_false (h0 k hk)) (decide_eq_true h1)]
  rfl
theorem hgt_last (hn : 0 < (levS r).length) (h0 : ∀ k, k < (levS r).length → askS r (levS r) (tryL r ch i k) ≠ ch) : hgtF r ch (i + 1) = tryL r ch i ((levS r).length - 1) := by
  rw [hgtF, find_no (p := fun l => decide (askS r (levS r) (hgtF r ch i ++ [l + DM r i]) = ch)) (fun k hk => decide_eq_false (h0 k hk))]
  rfl
end
end Go.Proofs.YtekkpcpbnonkaaaGreatDoor.Rv
end
