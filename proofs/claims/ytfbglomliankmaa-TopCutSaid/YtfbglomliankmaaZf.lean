/-
  Lemmas and walks of functions, joined and with only what the claim needs.
  Conditions stand in each theorem.
-/
import Derived.Test.YtfbglomliankmaaProg
import Derived.Test.YtfbglomliankmaaRows
import Derived.Below
import Derived.Laws.AppendOwn
import Derived.Laws.Rows
import Derived.Laws.Slices
import Derived.Tactics
import Derived.OrdersHeld
import Derived.KernelRfl
import Derived.WalkKit
import Derived.Deep.AppendLies
import Derived.IntWalk
import Derived.Scope
import Derived.WalkSpells
import Derived.DeepKeys
import Derived.Deep.Upon
import Derived.Laws.Small
import Derived.RangeFuncLeaves
import Derived.RangeFuncSeq
import Derived.OrdersIn
import Derived.Sort.LoopGhostIn
import Derived.TacticsIn
import Derived.RangeFuncOwn
import Derived.WideKeyMaps
import Derived.DeepKeys4
import Derived.Carry
import Derived.Laws.CopyRow
import Derived.Laws.MakeOwn
import Derived.WalkArith
import Derived.Laws.Closers25b
import Derived.ProofKit
import Derived.OpenShut
import Derived.ChangeOld
import Derived.SizedLaws
import Derived.Deep.Slices
import Derived.Deep.Fields
import Derived.ChangeSame
import Derived.Lib.SmallJoins
import Derived.Test.YtfbglomliankmaaZe
section
set_option linter.unusedSimpArgs false
set_option linter.unusedVariables false
namespace Go.Proofs.Ytfbglomliankmaa.Sc
open Go.RowKit Go
open Go.K (setd setn ev nth over cl eI eP eT setM setF)
attribute [local irreducible] K.blk K.row
theorem laidOut : laidOutB Try.prog = true := by kernel_rfl
theorem size164 : Try.prog.types.size = 180 := by kernel_rfl
theorem row101 : 98 < Try.prog.types.size := by rw [size164]; decide
theorem wide101 : (match Try.prog.underlying 98 with | some (.array _ _) | some (.struct _) => true | _ => false) = true := by kernel_rfl
theorem ulM : Try.prog.underlying 135 = some (.map 98 3) := by kernel_rfl
set_option maxRecDepth 100000 in
theorem mapT : K.MapT Try.prog 135 98 := ⟨⟨3, ulM, fun w => by kernel_rfl⟩, deep_law_laid laidOut (m := 10) (by omega) row101 key101 wide101⟩
theorem lits3n {m : Nat} {n : Int} (h : (Lit.int .i64 n).wf = true) : Try.prog.keyLits (m + 1) 3 [.int .i64 n] = some [.int .i64 n] := by
  unfold Program.keyLits
  rw [ul3]
  simp [h]
theorem lits101n {m : Nat} {xs : List Int} (h : Bd 0 270001 xs) : Try.prog.keyLits (m + 2) 98 (Value.agg (a8 xs).toArray).cells.toList = some (litA8 xs) := by
  have w : ∀ i, (Lit.int .i64 (xs.getD i default)).wf = true := fun i => WalkArith.wf_i64 (by have := h i; omega)
  have e : (Value.agg (a8 xs).toArray).cells.toList = a8 xs := rfl
  rw [e]
  unfold Program.keyLits
  rw [ul101]
  have e2 : List.range 8 = [0, 1, 2, 3, 4, 5, 6, 7] := rfl
  have e3 : ∀ i, i < 8 → ((a8 xs).drop (i * 1)).take 1 = [.int .i64 (xs.getD i default)] := fun i hi => by
    have : i = 0 ∨ i = 1 ∨ i = 2 ∨ i = 3 ∨ i = 4 ∨ i = 5 ∨ i = 6 ∨ i = 7 := by omega
    rcases this with h | h | h | h | h | h | h | h <;> subst h <;> rfl
  simp only [co101, co3, a8_len, if_true, e2, List.mapM_cons, List.mapM_nil, e3 0 (by omega), e3 1 (by omega), e3 2 (by omega), e3 3 (by omega), e3 4 (by omega), e3 5 (by omega), e3 6 (by omega), e3 7 (by omega), lits3n (w _)]
  rfl
theorem kt101 : Try.prog.keyType 98 = true := by kernel_rfl
theorem keyOf_kv {z : List Int} (h : Bd 0 270001 z) : ∃ q, keyOf Try.prog 98 (kv z) = some q := by
  refine ⟨.string (keyBytes (litA8 z)), ?_⟩
  unfold keyOf
  rw [ul101]
  have h1 := lits101n (m := 179) h
  simp only [size164, kt101, form101, Bool.and_self, if_true]
  rw [h1]
  rfl
theorem bd_mk {s k : Nat} {xs : List Int} (h : Bd 0 270001 xs) : Bd 0 270001 (mkI s k xs) := fun i => by
  rcases Nat.lt_or_ge i 8 with h8 | h8
  · rw [mkI_at h8]
    split
    · omega
    · exact h i
  · have : (mkI s k xs).getD i default = 0 := by rw [List.getD_eq_getElem?_getD, List.getElem?_eq_none (by rw [mkI_len]; exact h8)]; rfl
    rw [this]; omega
theorem ks_ok {zs : List (List Int)} (h : ∀ z ∈ zs, Bd 0 270001 z) : ∀ v ∈ (ddK zs).map kv, ∃ q, keyOf Try.prog 98 v = some q := fun v hv => by
  obtain ⟨z, hz, rfl⟩ := List.mem_map.1 hv
  exact keyOf_kv (h z (mem_ddK.1 hz))
theorem ks_ins {zs : List (List Int)} {z : List Int} (h8 : ∀ y ∈ zs, y.length = 8) (hz : z.length = 8) : (kv z ∈ (ddK zs).map kv → (ddK (zs ++ [z])).map kv = (ddK zs).map kv) ∧ (kv z ∉ (ddK zs).map kv → (ddK (zs ++ [z])).map kv = (ddK zs).map kv ++ [kv z]) := by
  have e : kv z ∈ (ddK zs).map kv ↔ z ∈ ddK zs := by
    constructor
    · intro h
      obtain ⟨y, hy, hyz⟩ := List.mem_map.1 h
      rw [← kv_inj (h8 y (mem_ddK.1 hy)) hz hyz]; exact hy
    · exact fun h => List.mem_map_of_mem h
  rw [e, ddK_snoc]
  unfold K.insK
  constructor
  · intro h; rw [if_pos h]
  · intro h; rw [if_neg h, List.map_append]; rfl
theorem keysT_len {kind base : Int} {hs : List Int} {s : Nat} {l : List (Int × Int)} : ∀ y ∈ keysT kind base hs s l, y.length = 8 := fun y hy => by
  obtain ⟨x, _, rfl⟩ := List.mem_map.1 hy
  exact mkI_len
theorem keysT_bd {kind base most : Int} {hs : List Int} {rs : List (Int × Int)} (g : Good kind base most hs rs) {s : Nat} {l : List (Int × Int)} (hp : ∀ x ∈ l, Parts x.1 x.2) : ∀ y ∈ keysT kind base hs s l, Bd 0 270001 y := fun y hy => by
  obtain ⟨x, hx, rfl⟩ := List.mem_map.1 hy
  exact bd_mk (g.bdc (hp x hx))
theorem keysT_snoc {kind base : Int} {hs : List Int} {s k : Nat} {l : List (Int × Int)} (h : k < l.length) : keysT kind base hs s (l.take (k + 1)) = keysT kind base hs s (l.take k) ++ [mkI s 8 (cuts kind base (l.getD k default).1 (l.getD k default).2 hs)] := by
  unfold keysT; exact take_succ_map _ h

set_option maxRecDepth 100000 in
theorem c75 {kind base most : Int} {A B : Option Addr} {c d : Nat} {hs : List Int} {rs : List (Int × Int)} {l : List (Int × Int)} {C : Option Addr} {cc : Nat} {s : Nat} {p q : Addr} {w : World} (hl : K.PtrL w [] p [.slice C l.length cc]) (hm : K.PtrL w [] q [.int .i64 kind, .int .i64 base, .int .i64 most, .slice A hs.length c, .slice B rs.length d, .func (.func (90 + kind.toNat)) #[] #[]]) (hS : K.Rd w C 2 K.eP l) (hH : K.Rd w A 1 K.eI hs) (g : Good kind base most hs rs) (hp : ∀ x ∈ l, Parts x.1 x.2) (hl6 : l.length ≤ 6) (hs8 : s < 256) :
    Calls Try.prog 67 [.int .i64 s, .pointer (some p), .pointer (some q)].toArray w (K.Gives (.bool (apB kind base hs l s)) w) := by
  have g1 := g.k
  have g2 := g.n
  have g3 := g.r
  have g4 := g.b
  have g5 := g.m
  refine K.enter (args := [.int .i64 s, .pointer (some p), .pointer (some q)]) Try.func67 rfl (n := 44) rfl ?_
  simp only [List.replicate, List.cons_append, List.nil_append]
  refine K.seq ?_
  refine K.region_lit ?_
  refine K.seq_pure (K.assign) rfl ?_
  dsimp only [setd, setn, ev, nth]
  refine K.seq_nil ?_
  refine K.norm_then ?_
  refine K.seq ?_
  refine K.region_lit ?_
  refine K.seq_new (K.mkMap) rfl ?_
  intro b11
  try dsimp only [setd, setn, ev, nth, over, cl, eI, eP, eT, List.map, List.append, List.drop, List.take]
  refine K.seq_pure (K.assign) rfl ?_
  dsimp only [setd, setn, ev, nth]
  refine K.seq_nil ?_
  refine K.norm_then ?_
  refine K.seq ?_
  refine K.seq ?_
  refine K.region_lit ?_
  refine K.seq_sil (K.load1 one_78 rfl (hl.any)) rfl ?_
  try dsimp only [setd, setn, ev, nth, over, cl, eI, eP, eT, List.map, List.append, List.drop, List.take]
  refine K.seq_pure (K.len_sl sl_78 rfl) rfl ?_
  dsimp only [setd, setn, ev, nth]
  refine K.seq_pure (K.move) rfl ?_
  dsimp only [setd, setn, ev, nth]
  refine K.seq_nil ?_
  refine K.norm_then ?_
  refine K.block ?_
  refine K.loopW [14] [7, 8, 9, 10, 15, 16, 17, 18, 19, 20, 21, 22, 23, 24, 25, 26, 27, 28, 29, 30, 31, 32, 33, 34, 35, 36, 37, 38, 39, 40, 41] (fun vi L => ∃ k : Nat, vi = [.int .i64 (k : Int)] ∧ L = [K.mp b11 none ((ddK (keysT kind base hs s (l.take k))).map kv)] ∧ k ≤ l.length) (fun vi => l.length - (intOf (K.nth vi 0)).toNat) ?_ ?_
  · exact ⟨0, rfl, rfl, Nat.zero_le _⟩
  intro vi vr L hJ
  obtain ⟨k, rfl, rfl, hkn⟩ := hJ
  try dsimp only [setd, setn, ev, nth, over, cl, eI, eP, eT, setM, setF, List.map, List.append, List.drop, List.take]
  refine K.seq ?_
  refine K.region_lit ?_
  refine K.seq_pure (K.lss rfl rfl) rfl ?_
  dsimp only [setd, setn, ev, nth]
  refine K.seq_nil ?_
  refine K.norm_then ?_
  refine K.seq ?_
  refine K.cond rfl (fun ht15 => ?_) (fun ht15 => ?_)
  · try replace ht15 := of_decide_eq_true ht15
    have hk : k < l.length := by omega
    have hpk := hp _ (K.gt_mem hk)
    have hpt : ∀ x ∈ l.take k, Parts x.1 x.2 := fun x hx => hp x (List.mem_of_mem_take hx)
    have hpt1 : ∀ y ∈ keysT kind base hs s (l.take k) ++ [(mkI s 8 (cuts kind base (l.getD k default).1 (l.getD k default).2 hs))], Bd 0 270001 y := by rw [← keysT_snoc hk]; exact keysT_bd g (fun x hx => hp x (List.mem_of_mem_take hx))
    refine K.skip ?_
    refine K.norm_then ?_
    refine K.seq ?_
    refine K.block ?_
    refine K.seq ?_
    refine K.region_lit ?_
    refine K.seq_ix (M := []) _ hS.sl sl_78 rfl rfl rfl (by omega) rfl ?_
    intro p16 hp16
    try dsimp only [setd, setn, ev, nth, over, cl, eI, eP, eT, List.map, List.append, List.drop, List.take]
    refine K.seq_sil (K.loadA_p ag_36 rfl (hp16.any) rfl) rfl ?_
    try dsimp only [setd, setn, ev, nth, over, cl, eI, eP, eT, List.map, List.append, List.drop, List.take]
    refine K.seq_new (K.alloc zr_36) rfl ?_
    intro b7
    try dsimp only [setd, setn, ev, nth, over, cl, eI, eP, eT, List.map, List.append, List.drop, List.take]
    refine K.seq_st (K.store_all sz_36 rfl rfl rfl rfl (K.rp0)) rfl ?_
    try dsimp only [setd, setn, ev, nth, over, cl, eI, eP, eT, List.map, List.append, List.drop, List.take]
    refine K.seq_nil ?_
    refine K.norm_then ?_
    refine K.seq ?_
    refine K.region_lit ?_
    refine K.seq_sil (K.loadA_p ag_94 rfl (hm.any) rfl) rfl ?_
    try dsimp only [setd, setn, ev, nth, over, cl, eI, eP, eT, List.map, List.append, List.drop, List.take]
    refine K.seq_sil (K.loadA_own ag_36 rfl (K.m0) rfl) rfl ?_
    try dsimp only [setd, setn, ev, nth, over, cl, eI, eP, eT, List.map, List.append, List.drop, List.take]
    refine K.seq_call (K.call_g cal_42 (fun F w hF hw => c59 (u := (l.getD k default).1) (v := (l.getD k default).2) (hH.pass hw) g hpk)) rfl ?_
    try dsimp only [setd, setn, ev, nth, over, cl, eI, eP, eT, List.map, List.append, List.drop, List.take]
    refine K.seq_pure (K.move) rfl ?_
    dsimp only [setd, setn, ev, nth]
    refine K.seq_pure (K.extract rfl rfl) rfl ?_
    dsimp only [setd, setn, ev, nth]
    refine K.seq_pure (K.extract rfl rfl) rfl ?_
    dsimp only [setd, setn, ev, nth]
    refine K.seq_new (K.alloc zr_98) rfl ?_
    intro b8
    try dsimp only [setd, setn, ev, nth, over, cl, eI, eP, eT, List.map, List.append, List.drop, List.take]
    refine K.seq_st (K.store_all sz_98 rfl rfl rfl rfl (K.rp0)) rfl ?_
    try dsimp only [setd, setn, ev, nth, over, cl, eI, eP, eT, List.map, List.append, List.drop, List.take]
    refine K.seq_pure (K.assign) rfl ?_
    dsimp only [setd, setn, ev, nth]
    refine K.seq_nil ?_
    refine K.norm_then ?_
    refine K.seq ?_
    refine K.seq ?_
    refine K.region_lit ?_
    refine K.seq_pure (K.move) rfl ?_
    dsimp only [setd, setn, ev, nth]
    refine K.seq_nil ?_
    refine K.norm_then ?_
    refine K.block ?_
    refine K.loopW [24] [10, 25, 26, 27, 28, 29, 30, 31, 32, 33, 34] (fun vi L => ∃ i : Nat, vi = [.int .i64 (i : Int)] ∧ L = [K.blk b8 98 (a8 (mkI s i (cuts kind base (l.getD k default).1 (l.getD k default).2 hs))), K.blk b7 36 [.int .i64 (l.getD k default).1, .int .i64 (l.getD k default).2], K.mp b11 none ((ddK (keysT kind base hs s (l.take k))).map kv)] ∧ i ≤ 8) (fun vi => 8 - (intOf (K.nth vi 0)).toNat) ?_ ?_
    · exact ⟨0, rfl, by rw [a8_mk0], by omega⟩
    intro vi vr L hJ
    obtain ⟨i, rfl, rfl, hin⟩ := hJ
    try dsimp only [setd, setn, ev, nth, over, cl, eI, eP, eT, setM, setF, List.map, List.append, List.drop, List.take]
    refine K.seq ?_
    refine K.region_lit ?_
    refine K.seq_pure (K.lss rfl rfl) rfl ?_
    dsimp only [setd, setn, ev, nth]
    refine K.seq_nil ?_
    refine K.norm_then ?_
    refine K.seq ?_
    refine K.cond rfl (fun ht25 => ?_) (fun ht25 => ?_)
    · try replace ht25 := of_decide_eq_true ht25
      have hi : i < 8 := by omega
      refine K.skip ?_
      refine K.norm_then ?_
      refine K.seq ?_
      refine K.block ?_
      refine K.seq ?_
      refine K.region_lit ?_
      refine K.seq_pure (K.move) rfl ?_
      dsimp only [setd, setn, ev, nth]
      refine K.seq_pure (K.assign) rfl ?_
      dsimp only [setd, setn, ev, nth]
      refine K.seq_nil ?_
      refine K.norm_then ?_
      refine K.seq ?_
      refine K.region_lit ?_
      refine K.seq_pure (K.move) rfl ?_
      dsimp only [setd, setn, ev, nth]
      refine K.seq_pure (K.move) rfl ?_
      dsimp only [setd, setn, ev, nth]
      refine K.seq_pure (K.shr_int rfl rfl (by omega)) rfl ?_
      dsimp only [setd, setn, ev, nth]
      refine K.seq_pure (K.Pure.eq (K.and_int rfl rfl) (by rw [bit_val hs8 hi])) rfl ?_
      dsimp only [setd, setn, ev, nth]
      refine K.seq_pure (K.eql rfl rfl) rfl ?_
      dsimp only [setd, setn, ev, nth]
      refine K.seq_nil ?_
      refine K.norm_then ?_
      refine K.cond rfl (fun ht31 => ?_) (fun ht31 => ?_)
      · try replace ht31 := of_decide_eq_true ht31
        have hbf : s.testBit i = false := by cases hb : s.testBit i with
          | false => rfl
          | true => rw [hb] at ht31; cases ht31
        refine K.region_lit ?_
        refine K.seq_pure (K.move) rfl ?_
        dsimp only [setd, setn, ev, nth]
        refine K.seq_pure (K.indexAddr_ar ar_98 rfl rfl (by omega) (by omega)) rfl ?_
        try dsimp only [setd, setn, ev, nth, over, cl, eI, eP, eT, List.map, List.append, List.drop, List.take]
        refine K.seq_st (K.store_ix sz_3 rfl rfl (by rw [a8_len]; omega) rfl K.Rep.here) rfl ?_
        try dsimp only [setd, setn, ev, nth, over, cl, eI, eP, eT, List.map, List.append, List.drop, List.take]
        rw [a8_mkF hi hbf]
        try dsimp only [setd, setn, ev, nth, over, cl, eI, eP, eT, List.map, List.append, List.drop, List.take]
        refine K.seq_nil ?_
        refine K.norm_block ?_
        refine K.norm_then ?_
        refine K.region_lit ?_
        refine K.seq_pure (K.add_i64 rfl rfl (by omega)) rfl ?_
        dsimp only [setd, setn, ev, nth]
        refine K.seq_pure (K.move) rfl ?_
        dsimp only [setd, setn, ev, nth]
        refine K.seq_nil ?_
        exact K.round_endW (L'' := [K.blk b8 98 (a8 (mkI s (i + 1) (cuts kind base (l.getD k default).1 (l.getD k default).2 hs))), K.blk b7 36 [.int .i64 (l.getD k default).1, .int .i64 (l.getD k default).2], K.mp b11 none ((ddK (keysT kind base hs s (l.take k))).map kv)]) [.int .i64 ((i : Int) + 1)] ⟨i + 1, rfl, rfl, by omega⟩ (by simp [K.nth, intOf]; omega) (by (repeat (first | exact List.Sublist.refl _ | apply List.Sublist.cons)); done) (by kernel_rfl)
      try replace ht31 := of_decide_eq_false ht31
      have hbt : s.testBit i = true := by cases hb : s.testBit i with
        | true => rfl
        | false => rw [hb] at ht31; exact absurd rfl ht31
      refine K.skip ?_
      refine K.norm_block ?_
      refine K.norm_then ?_
      refine K.region_lit ?_
      refine K.seq_pure (K.add_i64 rfl rfl (by omega)) rfl ?_
      dsimp only [setd, setn, ev, nth]
      refine K.seq_pure (K.move) rfl ?_
      dsimp only [setd, setn, ev, nth]
      refine K.seq_nil ?_
      exact K.round_endW (L'' := [K.blk b8 98 (a8 (mkI s i (cuts kind base (l.getD k default).1 (l.getD k default).2 hs))), K.blk b7 36 [.int .i64 (l.getD k default).1, .int .i64 (l.getD k default).2], K.mp b11 none ((ddK (keysT kind base hs s (l.take k))).map kv)]) [.int .i64 ((i : Int) + 1)] ⟨i + 1, rfl, by rw [a8_mkT hbt], by omega⟩ (by simp [K.nth, intOf]; omega) (by (repeat (first | exact List.Sublist.refl _ | apply List.Sublist.cons)); done) (by kernel_rfl)
    try replace ht25 := of_decide_eq_false ht25
    have hi8 : i = 8 := by omega
    subst hi8
    refine K.exit ?_
    refine K.exit_then ?_
    refine K.exit_then ?_
    refine K.exit_here ?_
    refine K.norm_then ?_
    refine K.draw_take 1 [4, 6] Try_mixed ?_
    refine K.d_pure 0 rfl (K.move) (by kernel_rfl) rfl ?_
    dsimp only [setd, setn, ev, nth]
    refine K.d_mem 1 rfl (K.loadA_own ag_98 rfl (List.Mem.head _) (by rw [a8_len]; rfl)) (fun _ h => K.take_sub 1 _ h) (by kernel_rfl) (by kernel_rfl) rfl ?_
    try dsimp only [setd, setn, ev, nth, over, cl, eI, eP, eT, List.map, List.append, List.drop, List.take]
    refine K.d_two 2 4 (by kernel_rfl) ?_ ?_
    · refine K.s_loud 2 rfl (K.lookup_mp mapT rfl rfl (K.m2) (keyOf_kv (bd_mk (g.bdc hpk))) (ks_ok (keysT_bd g hpt))) (fun _ h => K.take_sub 1 _ h) (by kernel_rfl) rfl ?_
      rintro c37 _
      try dsimp only [setd, setn, ev, nth, over, cl, eI, eP, eT, List.map, List.append, List.drop, List.take]
      refine K.d_pure 3 rfl (K.add_wrap rfl rfl) (by kernel_rfl) rfl ?_
      dsimp only [setd, setn, ev, nth]
      refine K.d_last 4 rfl (K.mapEntry_mp (ks' := ((ddK (keysT kind base hs s (l.take k) ++ [(mkI s 8 (cuts kind base (l.getD k default).1 (l.getD k default).2 hs))])).map kv)) mapT rfl rfl (keyOf_kv (bd_mk (g.bdc hpk))) (ks_ok (keysT_bd g hpt)) (ks_ins keysT_len mkI_len) (fun _ => K.rp2)) rfl (by kernel_rfl) rfl ?_
      rintro ⟨v39, n39⟩ _
      try dsimp only [setd, setn, ev, nth, over, cl, eI, eP, eT, List.map, List.append, List.drop, List.take]
      refine K.d_pure 5 rfl (K.extract rfl rfl) (by kernel_rfl) rfl ?_
      dsimp only [setd, setn, ev, nth]
      refine K.d_last 6 rfl (K.entryStore_mp rfl rfl rfl (K.rp2)) rfl (by kernel_rfl) rfl ?_
      intro _ _
      try dsimp only [setd, setn, ev, nth, over, cl, eI, eP, eT, List.map, List.append, List.drop, List.take]
      refine K.d_done (by kernel_rfl) ?_
      refine K.norm_block ?_
      refine K.norm_then ?_
      refine K.region_lit ?_
      refine K.seq_pure (K.add_i64 rfl rfl (by omega)) rfl ?_
      dsimp only [setd, setn, ev, nth]
      refine K.seq_pure (K.move) rfl ?_
      dsimp only [setd, setn, ev, nth]
      refine K.seq_nil ?_
      exact K.round_endW (L'' := [K.mp b11 none ((ddK (keysT kind base hs s (l.take k) ++ [(mkI s 8 (cuts kind base (l.getD k default).1 (l.getD k default).2 hs))])).map kv)]) [.int .i64 ((k : Int) + 1)] ⟨k + 1, rfl, by rw [keysT_snoc hk], by omega⟩ (by simp [K.nth, intOf]; omega) (by (repeat (first | exact List.Sublist.refl _ | apply List.Sublist.cons)); done) (by kernel_rfl)
    refine K.s_last 4 rfl (K.mapEntry_mp (ks' := ((ddK (keysT kind base hs s (l.take k) ++ [(mkI s 8 (cuts kind base (l.getD k default).1 (l.getD k default).2 hs))])).map kv)) mapT rfl rfl (keyOf_kv (bd_mk (g.bdc hpk))) (ks_ok (keysT_bd g hpt)) (ks_ins keysT_len mkI_len) (fun _ => K.rp2)) rfl (by kernel_rfl) rfl ?_
    rintro ⟨v39, n39⟩ _
    try dsimp only [setd, setn, ev, nth, over, cl, eI, eP, eT, List.map, List.append, List.drop, List.take]
    refine K.d_pure 5 rfl (K.extract rfl rfl) (by kernel_rfl) rfl ?_
    dsimp only [setd, setn, ev, nth]
    refine K.d_loud 2 rfl (K.lookup_mp mapT rfl rfl (K.m2) (keyOf_kv (bd_mk (g.bdc hpk))) (ks_ok hpt1)) (fun _ h => K.take_sub 1 _ h) (by kernel_rfl) rfl ?_
    rintro c37 _
    try dsimp only [setd, setn, ev, nth, over, cl, eI, eP, eT, List.map, List.append, List.drop, List.take]
    refine K.d_pure 3 rfl (K.add_wrap rfl rfl) (by kernel_rfl) rfl ?_
    dsimp only [setd, setn, ev, nth]
    refine K.d_last 6 rfl (K.entryStore_mp rfl rfl rfl (K.rp2)) rfl (by kernel_rfl) rfl ?_
    intro _ _
    try dsimp only [setd, setn, ev, nth, over, cl, eI, eP, eT, List.map, List.append, List.drop, List.take]
    refine K.d_done (by kernel_rfl) ?_
    refine K.norm_block ?_
    refine K.norm_then ?_
    refine K.region_lit ?_
    refine K.seq_pure (K.add_i64 rfl rfl (by omega)) rfl ?_
    dsimp only [setd, setn, ev, nth]
    refine K.seq_pure (K.move) rfl ?_
    dsimp only [setd, setn, ev, nth]
    refine K.seq_nil ?_
    exact K.round_endW (L'' := [K.mp b11 none ((ddK (keysT kind base hs s (l.take k) ++ [(mkI s 8 (cuts kind base (l.getD k default).1 (l.getD k default).2 hs))])).map kv)]) [.int .i64 ((k : Int) + 1)] ⟨k + 1, rfl, by rw [keysT_snoc hk], by omega⟩ (by simp [K.nth, intOf]; omega) (by (repeat (first | exact List.Sublist.refl _ | apply List.Sublist.cons)); done) (by kernel_rfl)
  try replace ht15 := of_decide_eq_false ht15
  refine K.exit ?_
  refine K.exit_then ?_
  refine K.exit_then ?_
  refine K.exit_here ?_
  refine K.norm_then ?_
  refine K.seq ?_
  refine K.region_lit ?_
  refine K.seq_pure (K.move) rfl ?_
  dsimp only [setd, setn, ev, nth]
  refine K.seq_sil (K.len_mp ulM rfl (K.m0)) rfl ?_
  try dsimp only [setd, setn, ev, nth, over, cl, eI, eP, eT, List.map, List.append, List.drop, List.take]
  refine K.seq_sil (K.load1 one_78 rfl (hl.any)) rfl ?_
  try dsimp only [setd, setn, ev, nth, over, cl, eI, eP, eT, List.map, List.append, List.drop, List.take]
  refine K.seq_pure (K.len_sl sl_78 rfl) rfl ?_
  dsimp only [setd, setn, ev, nth]
  refine K.seq_pure (K.eql rfl rfl) rfl ?_
  dsimp only [setd, setn, ev, nth]
  refine K.seq_pure (K.assign) rfl ?_
  dsimp only [setd, setn, ev, nth]
  refine K.seq_nil ?_
  refine K.norm_then ?_
  refine K.ret ?_
  refine K.end_ret (fun w _ => K.res_tmp rfl w) ?_
  have hjj : l.take k = l := take_all (by omega)
  rw [hjj]
  exact K.gives_b rfl (by unfold apB; rw [List.length_map]; simp only [Int.natCast_inj])

end Go.Proofs.Ytfbglomliankmaa.Sc
end
section
set_option linter.unusedSimpArgs false
set_option linter.unusedVariables false
namespace Go.Proofs.Ytfbglomliankmaa.Sc
open Go.RowKit Go
open Go.K (setd setn ev nth over cl eI eP eT setM setF)
attribute [local irreducible] K.blk K.row

set_option maxRecDepth 100000 in
theorem c34 {kind base most : Int} {A B : Option Addr} {c d : Nat} {hs : List Int} {rs : List (Int × Int)} {l : List (Int × Int)} {C : Option Addr} {cc : Nat} {w : World} (hH : K.Rd w A 1 K.eI hs) (hR : K.Rd w B 2 K.eP rs) (hn : hs.length ≤ 4611686018427387904) (hm : rs.length ≤ 4611686018427387904) (hS : K.Rd w C 2 K.eP l) (hl : l.length ≤ 4611686018427387904) :
    Calls Try.prog 37 [.agg #[.int .i64 kind, .int .i64 base, .int .i64 most, .slice A hs.length c, .slice B rs.length d], .slice C l.length cc].toArray w (K.RetSE 3 1 K.eI (tellR kind base most hs rs l) (tellE kind base most hs rs l) w) := by
  refine K.enter (args := [.agg #[.int .i64 kind, .int .i64 base, .int .i64 most, .slice A hs.length c, .slice B rs.length d], .slice C l.length cc]) Try.func37 rfl (n := 97) rfl ?_
  simp only [List.replicate, List.cons_append, List.nil_append]
  refine K.seq ?_
  refine K.region_lit ?_
  refine K.seq_new (K.box) rfl ?_
  intro b2
  try dsimp only [setd, setn, ev, nth, over, cl, eI, eP, eT, List.map, List.append, List.drop, List.take]
  refine K.seq_new (K.box) rfl ?_
  intro b3
  try dsimp only [setd, setn, ev, nth, over, cl, eI, eP, eT, List.map, List.append, List.drop, List.take]
  refine K.seq_pure (K.assign) rfl ?_
  dsimp only [setd, setn, ev, nth]
  refine K.seq_pure (K.assign) rfl ?_
  dsimp only [setd, setn, ev, nth]
  refine K.seq_nil ?_
  refine K.norm_then ?_
  refine K.seq ?_
  refine K.seq ?_
  refine K.region_lit ?_
  refine K.seq_sil (K.loadA_own ag_41 rfl (K.m1) rfl) rfl ?_
  try dsimp only [setd, setn, ev, nth, over, cl, eI, eP, eT, List.map, List.append, List.drop, List.take]
  refine K.seq_call (K.call_g cal_66 (fun F w hF hw => c15 (hH.pass hw) (hR.pass hw) hn hm)) rfl ?_
  try dsimp only [setd, setn, ev, nth, over, cl, eI, eP, eT, List.map, List.append, List.drop, List.take]
  refine K.seq_pure (K.move) rfl ?_
  dsimp only [setd, setn, ev, nth]
  refine K.seq_pure (K.extract rfl rfl) rfl ?_
  dsimp only [setd, setn, ev, nth]
  refine K.seq_pure (K.extract rfl rfl) rfl ?_
  dsimp only [setd, setn, ev, nth]
  refine K.seq_pure (K.extract rfl rfl) rfl ?_
  dsimp only [setd, setn, ev, nth]
  refine K.seq_pure (K.assign) rfl ?_
  dsimp only [setd, setn, ev, nth]
  refine K.seq_nil ?_
  refine K.norm_then ?_
  refine K.seq ?_
  refine K.region_lit ?_
  refine K.seq_pure (K.move) rfl ?_
  dsimp only [setd, setn, ev, nth]
  refine K.seq_pure (K.eql rfl rfl) rfl ?_
  dsimp only [setd, setn, ev, nth]
  refine K.seq_pure (K.move) rfl ?_
  dsimp only [setd, setn, ev, nth]
  refine K.split 20 rfl (fun hg20 => ?_) (fun hg20 => ?_)
  · try replace hg20 := of_decide_eq_true hg20
    have hc0 : (chk kind base most hs rs).2.2 = 0 := by omega
    have g := chk_good hc0
    have g1 := g.k
    have g2 := g.n
    have g3 := g.r
    have g4 := g.b
    have g5 := g.m
    refine K.seq_sil (K.load1_own one_78 rfl (K.m0) rfl) rfl ?_
    try dsimp only [setd, setn, ev, nth, over, cl, eI, eP, eT, List.map, List.append, List.drop, List.take]
    refine K.seq_pure (K.len_sl sl_78 rfl) rfl ?_
    dsimp only [setd, setn, ev, nth]
    refine K.seq_pure (K.gtr rfl rfl) rfl ?_
    dsimp only [setd, setn, ev, nth]
    refine K.seq_pure (K.pick_t rfl) rfl ?_
    dsimp only [setd, setn, ev, nth]
    refine K.seq_nil ?_
    refine K.norm_then ?_
    refine K.cond rfl (fun ht24 => ?_) (fun ht24 => ?_)
    · try replace ht24 := of_decide_eq_true ht24
      refine K.region_lit ?_
      refine K.seq_pure (K.assign) rfl ?_
      dsimp only [setd, setn, ev, nth]
      refine K.seq_nil ?_
      refine K.norm_then ?_
      refine K.seq ?_
      refine K.seq ?_
      refine K.region_lit ?_
      refine K.seq_pure (K.move) rfl ?_
      dsimp only [setd, setn, ev, nth]
      refine K.seq_pure (K.neq rfl rfl) rfl ?_
      dsimp only [setd, setn, ev, nth]
      refine K.seq_nil ?_
      refine K.norm_then ?_
      refine K.cond rfl (fun ht26 => ?_) (fun ht26 => ?_)
      · try replace ht26 := of_decide_eq_true ht26
        refine K.seq ?_
        refine K.region_lit ?_
        refine K.seq_pure (K.move) rfl ?_
        dsimp only [setd, setn, ev, nth]
        refine K.seq_pure (K.assign) rfl ?_
        dsimp only [setd, setn, ev, nth]
        refine K.seq_pure (K.assign) rfl ?_
        dsimp only [setd, setn, ev, nth]
        refine K.seq_nil ?_
        refine K.norm_then ?_
        refine K.ret ?_
        refine K.ret_then ?_
        refine K.end_ret (fun w _ => K.res_tmp2 rfl w) ?_
        first | exact K.rets_se0 (tr_bad (by rw [te_chk ht26]; exact ht26)) (te_chk ht26).symm rfl | exact K.rets_se0 (tr_bad (by rw [te_long hc0 (by omega)]; decide)) (te_long hc0 (by omega)).symm rfl
      try replace ht26 := of_decide_eq_false ht26
      exact absurd (by decide) ht26
    try replace ht24 := of_decide_eq_false ht24
    refine K.skip ?_
    refine K.norm_then ?_
    refine K.seq ?_
    refine K.seq ?_
    refine K.region_lit ?_
    refine K.seq_pure (K.move) rfl ?_
    dsimp only [setd, setn, ev, nth]
    refine K.seq_pure (K.neq rfl rfl) rfl ?_
    dsimp only [setd, setn, ev, nth]
    refine K.seq_nil ?_
    refine K.norm_then ?_
    refine K.cond rfl (fun ht26 => ?_) (fun ht26 => ?_)
    · try replace ht26 := of_decide_eq_true ht26
      refine K.seq ?_
      refine K.region_lit ?_
      refine K.seq_pure (K.move) rfl ?_
      dsimp only [setd, setn, ev, nth]
      refine K.seq_pure (K.assign) rfl ?_
      dsimp only [setd, setn, ev, nth]
      refine K.seq_pure (K.assign) rfl ?_
      dsimp only [setd, setn, ev, nth]
      refine K.seq_nil ?_
      refine K.norm_then ?_
      refine K.ret ?_
      refine K.ret_then ?_
      refine K.end_ret (fun w _ => K.res_tmp2 rfl w) ?_
      first | exact K.rets_se0 (tr_bad (by rw [te_chk ht26]; exact ht26)) (te_chk ht26).symm rfl | exact K.rets_se0 (tr_bad (by rw [te_long hc0 (by omega)]; decide)) (te_long hc0 (by omega)).symm rfl
    try replace ht26 := of_decide_eq_false ht26
    refine K.skip ?_
    refine K.norm_then ?_
    refine K.seq ?_
    refine K.region_lit ?_
    refine K.seq_sil (K.loadA_own ag_41 rfl (K.m1) rfl) rfl ?_
    try dsimp only [setd, setn, ev, nth, over, cl, eI, eP, eT, List.map, List.append, List.drop, List.take]
    refine K.seq_sil (K.load1_own one_78 rfl (K.m0) rfl) rfl ?_
    try dsimp only [setd, setn, ev, nth, over, cl, eI, eP, eT, List.map, List.append, List.drop, List.take]
    refine K.seq_call (K.call_g cal_41 (fun F w hF hw => c58 (l := l) (hH.pass hw) (hR.pass hw) g (hS.pass hw) hl)) rfl ?_
    try dsimp only [setd, setn, ev, nth, over, cl, eI, eP, eT, List.map, List.append, List.drop, List.take]
    refine K.seq_pure (K.move) rfl ?_
    dsimp only [setd, setn, ev, nth]
    refine K.seq_pure (K.extract rfl rfl) rfl ?_
    dsimp only [setd, setn, ev, nth]
    refine K.seq_pure (K.extract rfl rfl) rfl ?_
    dsimp only [setd, setn, ev, nth]
    refine K.seq_new (K.alloc zr_94) rfl ?_
    intro b6
    try dsimp only [setd, setn, ev, nth, over, cl, eI, eP, eT, List.map, List.append, List.drop, List.take]
    refine K.seq_st (K.store_all sz_94 rfl rfl rfl rfl (K.rp0)) rfl ?_
    try dsimp only [setd, setn, ev, nth, over, cl, eI, eP, eT, List.map, List.append, List.drop, List.take]
    refine K.seq_pure (K.assign) rfl ?_
    dsimp only [setd, setn, ev, nth]
    refine K.seq_nil ?_
    refine K.norm_then ?_
    refine K.seq ?_
    refine K.seq ?_
    refine K.region_lit ?_
    refine K.seq_pure (K.move) rfl ?_
    dsimp only [setd, setn, ev, nth]
    refine K.seq_pure (K.neq rfl rfl) rfl ?_
    dsimp only [setd, setn, ev, nth]
    refine K.seq_nil ?_
    refine K.norm_then ?_
    refine K.cond rfl (fun ht35 => ?_) (fun ht35 => ?_)
    · try replace ht35 := of_decide_eq_true ht35
      skip
      refine K.seq ?_
      refine K.region_lit ?_
      refine K.seq_pure (K.move) rfl ?_
      dsimp only [setd, setn, ev, nth]
      refine K.seq_pure (K.assign) rfl ?_
      dsimp only [setd, setn, ev, nth]
      refine K.seq_pure (K.assign) rfl ?_
      dsimp only [setd, setn, ev, nth]
      refine K.seq_nil ?_
      refine K.norm_then ?_
      refine K.ret ?_
      refine K.ret_then ?_
      refine K.end_ret (fun w _ => K.res_tmp2 rfl w) ?_
      exact K.rets_se0 (tr_bad (by rw [te_sc hc0 (by omega) ht35]; exact ht35)) (te_sc hc0 (by omega) ht35).symm rfl
    try replace ht35 := of_decide_eq_false ht35
    have hsc : scsE l = 0 := by omega
    have hpp := scsE_parts hsc
    obtain ⟨N, hN⟩ : ∃ N, N = 2 ^ hs.length := ⟨_, rfl⟩
    have hN1 : N ≤ 256 := by rw [hN]; exact pow_bd g2.2
    have hN0 : 0 < N := by rw [hN]; exact Nat.two_pow_pos _
    refine K.skip ?_
    refine K.norm_then ?_
    refine K.seq ?_
    refine K.region_lit ?_
    refine K.nil_row (e := 3) (size := 1) ?_
    refine K.seq_pure (K.mkFunc) rfl ?_
    try dsimp only [setd, setn, ev, nth, over, cl, eI, eP, eT, List.map, List.append, List.drop, List.take]
    refine K.seq_pure (K.assign) rfl ?_
    dsimp only [setd, setn, ev, nth]
    refine K.seq_nil ?_
    refine K.norm_then ?_
    refine K.seq ?_
    refine K.seq ?_
    refine K.region_lit ?_
    refine K.seq_pure (K.move) rfl ?_
    dsimp only [setd, setn, ev, nth]
    refine K.seq_pure (K.fieldAddr_lit fo_41_3 rfl) rfl ?_
    dsimp only [setd, setn, ev, nth]
    refine K.seq_sil (K.load1_own one_31 rfl (K.m3) rfl) rfl ?_
    try dsimp only [setd, setn, ev, nth, over, cl, eI, eP, eT, List.map, List.append, List.drop, List.take]
    refine K.seq_pure (K.len_sl sl_31 rfl) rfl ?_
    dsimp only [setd, setn, ev, nth]
    refine K.seq_pure (K.Pure.eq (K.shl_int rfl rfl (by omega)) (by rw [shl_val g2.2, ← hN])) rfl ?_
    dsimp only [setd, setn, ev, nth]
    refine K.seq_pure (K.Pure.eq (K.sub_i64 rfl rfl (by omega)) (by rw [show ((N : Nat) : Int) - 1 = ((N - 1 : Nat) : Int) by omega])) rfl ?_
    dsimp only [setd, setn, ev, nth]
    refine K.seq_call (K.callv_g (first := []) (cap := [.pointer (some ⟨b3, 0, none⟩), .pointer (some ⟨b6, 0, none⟩)]) rfl cal_75 (fun F w hF hw => c75 (s := N - 1) (K.PtrL.now hw (hF _ (K.m2))) (K.PtrL.now hw (hF _ (K.m1))) (hS.pass hw) (hH.pass hw) g hpp (by omega) (by omega))) rfl ?_
    try dsimp only [setd, setn, ev, nth, over, cl, eI, eP, eT, List.map, List.append, List.drop, List.take]
    first | refine K.seq_pure (K.not_d rfl) rfl ?_ | refine K.seq_pure (K.not_ rfl) rfl ?_
    try dsimp only [setd, setn, ev, nth, over, cl, eI, eP, eT, List.map, List.append, List.drop, List.take]
    refine K.seq_nil ?_
    refine K.norm_then ?_
    refine K.cond rfl (fun ht45 => ?_) (fun ht45 => ?_)
    · try replace ht45 := of_decide_eq_true ht45
      refine K.seq ?_
      refine K.region_lit ?_
      refine K.seq_pure (K.assign) rfl ?_
      dsimp only [setd, setn, ev, nth]
      refine K.seq_pure (K.assign) rfl ?_
      dsimp only [setd, setn, ev, nth]
      refine K.seq_nil ?_
      refine K.norm_then ?_
      refine K.ret ?_
      refine K.ret_then ?_
      refine K.end_ret (fun w _ => K.res_tmp2 rfl w) ?_
      have hap0 : apB kind base hs l (2 ^ hs.length - 1) = false := by rw [← hN]; unfold apB; simpa using ht45
      exact K.rets_se0 (tr_bad (by rw [te_tw hc0 (by omega) hsc hap0]; decide)) (te_tw hc0 (by omega) hsc hap0).symm rfl
    try replace ht45 := of_decide_eq_false ht45
    have hap1 : apB kind base hs l (2 ^ hs.length - 1) = true := by rw [← hN]; unfold apB; simpa using ht45
    refine K.skip ?_
    refine K.norm_then ?_
    refine K.seq ?_
    refine K.region_lit ?_
    refine K.seq_pure (K.fieldAddr_lit fo_41_3 rfl) rfl ?_
    dsimp only [setd, setn, ev, nth]
    refine K.seq_sil (K.load1_own one_31 rfl (K.m3) rfl) rfl ?_
    try dsimp only [setd, setn, ev, nth, over, cl, eI, eP, eT, List.map, List.append, List.drop, List.take]
    refine K.seq_pure (K.len_sl sl_31 rfl) rfl ?_
    dsimp only [setd, setn, ev, nth]
    refine K.seq_pure (K.add_i64 rfl rfl (by omega)) rfl ?_
    dsimp only [setd, setn, ev, nth]
    refine K.seq_pure (K.assign) rfl ?_
    dsimp only [setd, setn, ev, nth]
    refine K.seq_nil ?_
    refine K.norm_then ?_
    refine K.seq ?_
    refine K.seq ?_
    refine K.region_lit ?_
    refine K.seq_pure (K.fieldAddr_lit fo_41_3 rfl) rfl ?_
    dsimp only [setd, setn, ev, nth]
    refine K.seq_sil (K.load1_own one_31 rfl (K.m3) rfl) rfl ?_
    try dsimp only [setd, setn, ev, nth, over, cl, eI, eP, eT, List.map, List.append, List.drop, List.take]
    refine K.seq_pure (K.len_sl sl_31 rfl) rfl ?_
    dsimp only [setd, setn, ev, nth]
    refine K.seq_pure (K.Pure.eq (K.shl_int rfl rfl (by omega)) (by rw [shl_val g2.2, ← hN])) rfl ?_
    dsimp only [setd, setn, ev, nth]
    refine K.seq_pure (K.move) rfl ?_
    dsimp only [setd, setn, ev, nth]
    refine K.seq_nil ?_
    refine K.norm_then ?_
    refine K.block ?_
    refine K.loopW [4, 8, 54] [9, 10, 11, 55, 56, 57, 58, 59, 60, 61, 62, 63, 64, 65, 66, 67, 68, 69, 70, 71, 72, 73, 74, 75, 76, 77, 78, 79, 80, 81, 82, 83, 84, 85, 86, 87, 88, 89, 90, 91, 92, 93, 94, 95, 96, 97] (fun vi L => ∃ (s : Nat) (Q0 : Option Addr) (q0 : Nat) (G0 : List Int × Nat), vi = [.slice Q0 G0.1.length q0, .int .i64 G0.2, .int .i64 s] ∧ L = [K.row (.slice Q0 G0.1.length q0) 3 1 G0.1.length (G0.1.flatMap K.eI), K.blk b6 94 [.int .i64 kind, .int .i64 base, .int .i64 most, .slice A hs.length c, .slice B rs.length d, .func (.func (90 + kind.toNat)) #[] #[]], K.blk b3 78 [.slice C l.length cc], K.blk b2 41 [.int .i64 kind, .int .i64 base, .int .i64 most, .slice A hs.length c, .slice B rs.length d]] ∧ G0 = tellF kind base hs l hs.length s ∧ s ≤ N) (fun vi => N - (intOf (K.nth vi 2)).toNat) ?_ ?_
    · exact ⟨0, none, 0, ([], hs.length + 1), rfl, rfl, rfl, Nat.zero_le _⟩
    intro vi vr L hJ
    obtain ⟨s, Q0, q0, G0, rfl, rfl, hG, hsn⟩ := hJ
    have hFl := tellF_len (kind := kind) (base := base) (hs := hs) (l := l) (n := hs.length) s
    rw [← hG] at hFl
    try dsimp only [setd, setn, ev, nth, over, cl, eI, eP, eT, setM, setF, List.map, List.append, List.drop, List.take]
    refine K.seq ?_
    refine K.region_lit ?_
    refine K.seq_pure (K.lss rfl rfl) rfl ?_
    dsimp only [setd, setn, ev, nth]
    refine K.seq_nil ?_
    refine K.norm_then ?_
    refine K.seq ?_
    refine K.cond rfl (fun ht55 => ?_) (fun ht55 => ?_)
    · try replace ht55 := of_decide_eq_true ht55
      have hsN : s < N := by omega
      have hs8 : s < 256 := by omega
      refine K.skip ?_
      refine K.norm_then ?_
      refine K.seq ?_
      refine K.block ?_
      refine K.seq ?_
      refine K.region_lit ?_
      refine K.seq_pure (K.move) rfl ?_
      dsimp only [setd, setn, ev, nth]
      refine K.seq_pure (K.assign) rfl ?_
      dsimp only [setd, setn, ev, nth]
      refine K.seq_nil ?_
      refine K.norm_then ?_
      refine K.seq ?_
      refine K.seq ?_
      refine K.region_lit ?_
      refine K.seq_pure (K.move) rfl ?_
      dsimp only [setd, setn, ev, nth]
      refine K.seq_pure (K.Pure.eq (K.conv_int ik_3 ik_137 rfl) (by rw [wrapU hs8])) rfl ?_
      try dsimp only [setd, setn, ev, nth, over, cl, eI, eP, eT, List.map, List.append, List.drop, List.take]
      refine K.seq_call (K.call_g cal_68 (fun F w hF hw => c76 hs8 w)) rfl ?_
      try dsimp only [setd, setn, ev, nth, over, cl, eI, eP, eT, List.map, List.append, List.drop, List.take]
      refine K.seq_pure (K.move) rfl ?_
      dsimp only [setd, setn, ev, nth]
      refine K.seq_pure (K.gtr rfl rfl) rfl ?_
      dsimp only [setd, setn, ev, nth]
      refine K.seq_pure (K.move) rfl ?_
      dsimp only [setd, setn, ev, nth]
      refine K.split 62 rfl (fun hg62 => ?_) (fun hg62 => ?_)
      · try replace hg62 := of_decide_eq_true hg62
        refine K.seq_skip ?_ ?_
        · rfl
        try dsimp only [setd, setn, ev, nth, over, cl, eI, eP, eT, List.map, List.append, List.drop, List.take]
        refine K.seq_skip ?_ ?_
        · rfl
        try dsimp only [setd, setn, ev, nth, over, cl, eI, eP, eT, List.map, List.append, List.drop, List.take]
        refine K.seq_skip ?_ ?_
        · rfl
        try dsimp only [setd, setn, ev, nth, over, cl, eI, eP, eT, List.map, List.append, List.drop, List.take]
        refine K.seq_skip ?_ ?_
        · rfl
        try dsimp only [setd, setn, ev, nth, over, cl, eI, eP, eT, List.map, List.append, List.drop, List.take]
        refine K.seq_pure (K.pick_t rfl) rfl ?_
        dsimp only [setd, setn, ev, nth]
        refine K.seq_nil ?_
        refine K.norm_then ?_
        refine K.cond_true rfl ?_
        refine K.exit ?_
        refine K.exit_then ?_
        refine K.exit_here ?_
        refine K.norm_then ?_
        refine K.region_lit ?_
        refine K.seq_pure (K.add_i64 rfl rfl (by omega)) rfl ?_
        dsimp only [setd, setn, ev, nth]
        refine K.seq_pure (K.move) rfl ?_
        dsimp only [setd, setn, ev, nth]
        refine K.seq_nil ?_
        exact K.round_endW (L'' := [K.row (.slice Q0 G0.1.length q0) 3 1 G0.1.length (G0.1.flatMap K.eI), K.blk b6 94 [.int .i64 kind, .int .i64 base, .int .i64 most, .slice A hs.length c, .slice B rs.length d, .func (.func (90 + kind.toNat)) #[] #[]], K.blk b3 78 [.slice C l.length cc], K.blk b2 41 [.int .i64 kind, .int .i64 base, .int .i64 most, .slice A hs.length c, .slice B rs.length d]]) [.slice Q0 G0.1.length q0, .int .i64 G0.2, .int .i64 ((s : Int) + 1)] ⟨s + 1, Q0, q0, G0, rfl, rfl, tellF_skip1 hG (by omega), by omega⟩ (by simp [K.nth, intOf]; omega) (by (repeat (first | exact List.Sublist.refl _ | apply List.Sublist.cons)); done) (by kernel_rfl)
      try replace hg62 := of_decide_eq_false hg62
      refine K.seq_pure (K.move) rfl ?_
      dsimp only [setd, setn, ev, nth]
      refine K.seq_pure (K.move) rfl ?_
      dsimp only [setd, setn, ev, nth]
      refine K.seq_call (K.callv_g (first := []) (cap := [.pointer (some ⟨b3, 0, none⟩), .pointer (some ⟨b6, 0, none⟩)]) rfl cal_75 (fun F w hF hw => c75 (s := s) (K.PtrL.now hw (hF _ (K.m2))) (K.PtrL.now hw (hF _ (K.m1))) (hS.pass hw) (hH.pass hw) g hpp (by omega) hs8)) rfl ?_
      try dsimp only [setd, setn, ev, nth, over, cl, eI, eP, eT, List.map, List.append, List.drop, List.take]
      first | refine K.seq_pure (K.not_d rfl) rfl ?_ | refine K.seq_pure (K.not_ rfl) rfl ?_
      try dsimp only [setd, setn, ev, nth, over, cl, eI, eP, eT, List.map, List.append, List.drop, List.take]
      refine K.seq_pure (K.pick_f rfl) rfl ?_
      dsimp only [setd, setn, ev, nth]
      refine K.seq_nil ?_
      refine K.norm_then ?_
      refine K.cond rfl (fun ht67 => ?_) (fun ht67 => ?_)
      · try replace ht67 := of_decide_eq_true ht67
        refine K.exit ?_
        refine K.exit_then ?_
        refine K.exit_here ?_
        refine K.norm_then ?_
        refine K.region_lit ?_
        refine K.seq_pure (K.add_i64 rfl rfl (by omega)) rfl ?_
        dsimp only [setd, setn, ev, nth]
        refine K.seq_pure (K.move) rfl ?_
        dsimp only [setd, setn, ev, nth]
        refine K.seq_nil ?_
        exact K.round_endW (L'' := [K.row (.slice Q0 G0.1.length q0) 3 1 G0.1.length (G0.1.flatMap K.eI), K.blk b6 94 [.int .i64 kind, .int .i64 base, .int .i64 most, .slice A hs.length c, .slice B rs.length d, .func (.func (90 + kind.toNat)) #[] #[]], K.blk b3 78 [.slice C l.length cc], K.blk b2 41 [.int .i64 kind, .int .i64 base, .int .i64 most, .slice A hs.length c, .slice B rs.length d]]) [.slice Q0 G0.1.length q0, .int .i64 G0.2, .int .i64 ((s : Int) + 1)] ⟨s + 1, Q0, q0, G0, rfl, rfl, tellF_skip2 hG (by unfold apB; simpa using ht67), by omega⟩ (by simp [K.nth, intOf]; omega) (by (repeat (first | exact List.Sublist.refl _ | apply List.Sublist.cons)); done) (by kernel_rfl)
      try replace ht67 := of_decide_eq_false ht67
      have hap : apB kind base hs l s = true := by unfold apB; simpa using ht67
      refine K.skip ?_
      refine K.norm_then ?_
      refine K.seq ?_
      refine K.region_lit ?_
      refine K.nil_row (e := 3) (size := 1) ?_
      refine K.seq_pure (K.assign) rfl ?_
      dsimp only [setd, setn, ev, nth]
      refine K.seq_nil ?_
      refine K.norm_then ?_
      refine K.seq ?_
      refine K.seq ?_
      refine K.region_lit ?_
      refine K.seq_pure (K.fieldAddr_lit fo_41_3 rfl) rfl ?_
      dsimp only [setd, setn, ev, nth]
      refine K.seq_sil (K.load1_own one_31 rfl (K.m4) rfl) rfl ?_
      try dsimp only [setd, setn, ev, nth, over, cl, eI, eP, eT, List.map, List.append, List.drop, List.take]
      refine K.seq_pure (K.len_sl sl_31 rfl) rfl ?_
      dsimp only [setd, setn, ev, nth]
      refine K.seq_pure (K.move) rfl ?_
      dsimp only [setd, setn, ev, nth]
      refine K.seq_nil ?_
      refine K.norm_then ?_
      refine K.block ?_
      refine K.loopW [10, 71] [11, 72, 73, 74, 75, 76, 77, 78, 79, 80, 81, 82, 83] (fun vi L => ∃ (k : Nat) (Q1 : Option Addr) (n1 q1 : Nat) (ys : List Value), vi = [.slice Q1 n1 q1, .int .i64 (k : Int)] ∧ L = [K.row (.slice Q1 n1 q1) 3 1 n1 ys, K.row (.slice Q0 G0.1.length q0) 3 1 G0.1.length (G0.1.flatMap K.eI), K.blk b6 94 [.int .i64 kind, .int .i64 base, .int .i64 most, .slice A hs.length c, .slice B rs.length d, .func (.func (90 + kind.toNat)) #[] #[]], K.blk b3 78 [.slice C l.length cc], K.blk b2 41 [.int .i64 kind, .int .i64 base, .int .i64 most, .slice A hs.length c, .slice B rs.length d]] ∧ n1 = (selN (fun i => s.testBit i) k).length ∧ ys = (selN (fun i => s.testBit i) k).flatMap K.eI ∧ k ≤ hs.length) (fun vi => hs.length - (intOf (K.nth vi 1)).toNat) ?_ ?_
      · exact ⟨0, none, 0, 0, [], rfl, rfl, rfl, rfl, Nat.zero_le _⟩
      intro vi vr L hJ
      obtain ⟨k, Q1, n1, q1, ys, rfl, rfl, hn1, hys, hkn⟩ := hJ
      have hsl := selN_len (p := (fun i => s.testBit i)) (n := k)
      try dsimp only [setd, setn, ev, nth, over, cl, eI, eP, eT, setM, setF, List.map, List.append, List.drop, List.take]
      refine K.seq ?_
      refine K.region_lit ?_
      refine K.seq_pure (K.lss rfl rfl) rfl ?_
      dsimp only [setd, setn, ev, nth]
      refine K.seq_nil ?_
      refine K.norm_then ?_
      refine K.seq ?_
      refine K.cond rfl (fun ht72 => ?_) (fun ht72 => ?_)
      · try replace ht72 := of_decide_eq_true ht72
        refine K.skip ?_
        refine K.norm_then ?_
        refine K.seq ?_
        refine K.block ?_
        refine K.seq ?_
        refine K.region_lit ?_
        refine K.seq_pure (K.move) rfl ?_
        dsimp only [setd, setn, ev, nth]
        refine K.seq_pure (K.assign) rfl ?_
        dsimp only [setd, setn, ev, nth]
        refine K.seq_nil ?_
        refine K.norm_then ?_
        refine K.seq ?_
        refine K.region_lit ?_
        refine K.seq_pure (K.move) rfl ?_
        dsimp only [setd, setn, ev, nth]
        refine K.seq_pure (K.move) rfl ?_
        dsimp only [setd, setn, ev, nth]
        refine K.seq_pure (K.shr_int rfl rfl (by omega)) rfl ?_
        dsimp only [setd, setn, ev, nth]
        refine K.seq_pure (K.Pure.eq (K.and_int rfl rfl) (by rw [bit_val hs8 (by omega)])) rfl ?_
        dsimp only [setd, setn, ev, nth]
        refine K.seq_pure (K.eql rfl rfl) rfl ?_
        dsimp only [setd, setn, ev, nth]
        refine K.seq_nil ?_
        refine K.norm_then ?_
        refine K.cond rfl (fun ht78 => ?_) (fun ht78 => ?_)
        · try replace ht78 := of_decide_eq_true ht78
          have hp : (fun i => s.testBit i) k = true := by
            show s.testBit k = true
            cases hb : s.testBit k with
            | true => rfl
            | false => rw [hb] at ht78; cases ht78
          refine K.region_lit ?_
          refine K.seq_pure (K.move) rfl ?_
          dsimp only [setd, setn, ev, nth]
          refine K.seq_pure (K.move) rfl ?_
          dsimp only [setd, setn, ev, nth]
          refine K.seq_new (K.buildSlice (bs1 _)) rfl ?_
          intro b81
          try dsimp only [setd, setn, ev, nth, over, cl, eI, eP, eT, List.map, List.append, List.drop, List.take]
          refine K.seq_upd (K.append el_31 rfl rfl (K.PtrL.own' (K.m0)) rfl rfl (by decide) (by omega) (by omega) (fun _ _ => K.rp1)) rfl ?_
          rintro ⟨g82, c82⟩ _
          try dsimp only [setd, setn, ev, nth, over, cl, eI, eP, eT, List.map, List.append, List.drop, List.take]
          refine K.seq_pure (K.assign) rfl ?_
          dsimp only [setd, setn, ev, nth]
          refine K.seq_nil ?_
          refine K.norm_block ?_
          refine K.norm_then ?_
          refine K.region_lit ?_
          refine K.seq_pure (K.add_i64 rfl rfl (by omega)) rfl ?_
          dsimp only [setd, setn, ev, nth]
          refine K.seq_pure (K.move) rfl ?_
          dsimp only [setd, setn, ev, nth]
          refine K.seq_nil ?_
          exact K.round_endW [.slice (some ⟨g82, 0, none⟩) (n1 + 1) c82, .int .i64 ((k : Int) + 1)] ⟨k + 1, _, _, _, _, rfl, rfl, by rw [selN_t (p := (fun i => s.testBit i)) (n := k) hp, List.length_append, ← hn1]; rfl, by rw [selN_t (p := (fun i => s.testBit i)) (n := k) hp, List.flatMap_append, ← hys], by omega⟩ (by simp [K.nth, intOf]; omega) (by repeat (first | exact List.Sublist.refl _ | apply List.Sublist.cons)) (by kernel_rfl)
        try replace ht78 := of_decide_eq_false ht78
        have hp : (fun i => s.testBit i) k = false := by
          show s.testBit k = false
          cases hb : s.testBit k with
          | false => rfl
          | true => rw [hb] at ht78; exact absurd rfl ht78
        refine K.skip ?_
        refine K.norm_block ?_
        refine K.norm_then ?_
        refine K.region_lit ?_
        refine K.seq_pure (K.add_i64 rfl rfl (by omega)) rfl ?_
        dsimp only [setd, setn, ev, nth]
        refine K.seq_pure (K.move) rfl ?_
        dsimp only [setd, setn, ev, nth]
        refine K.seq_nil ?_
        exact K.round_endW [.slice Q1 n1 q1, .int .i64 ((k : Int) + 1)] ⟨k + 1, _, _, _, _, rfl, rfl, by rw [selN_f (p := (fun i => s.testBit i)) (n := k) hp, ← hn1], by rw [selN_f (p := (fun i => s.testBit i)) (n := k) hp, ← hys], by omega⟩ (by simp [K.nth, intOf]; omega) (by repeat (first | exact List.Sublist.refl _ | apply List.Sublist.cons)) (by kernel_rfl)
      try replace ht72 := of_decide_eq_false ht72
      refine K.exit ?_
      refine K.exit_then ?_
      refine K.exit_then ?_
      refine K.exit_here ?_
      refine K.norm_then ?_
      refine K.seq ?_
      have hkk : k = hs.length := by omega
      subst hkk
      subst hn1
      subst hys
      refine K.use_row (List.Mem.head _) (fun hQ1 => ?_)
      refine K.use_row (List.Mem.tail _ (List.Mem.head _)) (fun hQ0 => ?_)
      refine K.region_lit ?_
      refine K.seq_pure (K.move) rfl ?_
      dsimp only [setd, setn, ev, nth]
      refine K.seq_pure (K.len_sl sl_31 rfl) rfl ?_
      dsimp only [setd, setn, ev, nth]
      refine K.seq_pure (K.move) rfl ?_
      dsimp only [setd, setn, ev, nth]
      refine K.seq_pure (K.lss rfl rfl) rfl ?_
      dsimp only [setd, setn, ev, nth]
      refine K.seq_pure (K.move) rfl ?_
      dsimp only [setd, setn, ev, nth]
      refine K.split 88 rfl (fun hg88 => ?_) (fun hg88 => ?_)
      · try replace hg88 := of_decide_eq_true hg88
        refine K.seq_skip ?_ ?_
        · rfl
        try dsimp only [setd, setn, ev, nth, over, cl, eI, eP, eT, List.map, List.append, List.drop, List.take]
        refine K.seq_skip ?_ ?_
        · rfl
        try dsimp only [setd, setn, ev, nth, over, cl, eI, eP, eT, List.map, List.append, List.drop, List.take]
        refine K.seq_skip ?_ ?_
        · rfl
        try dsimp only [setd, setn, ev, nth, over, cl, eI, eP, eT, List.map, List.append, List.drop, List.take]
        refine K.seq_skip ?_ ?_
        · rfl
        try dsimp only [setd, setn, ev, nth, over, cl, eI, eP, eT, List.map, List.append, List.drop, List.take]
        refine K.seq_pure (K.pick_t rfl) rfl ?_
        dsimp only [setd, setn, ev, nth]
        refine K.seq_nil ?_
        refine K.norm_then ?_
        refine K.cond_true rfl ?_
        refine K.region_lit ?_
        refine K.seq_pure (K.move) rfl ?_
        dsimp only [setd, setn, ev, nth]
        refine K.seq_pure (K.move) rfl ?_
        dsimp only [setd, setn, ev, nth]
        refine K.seq_pure (K.len_sl sl_31 rfl) rfl ?_
        dsimp only [setd, setn, ev, nth]
        refine K.seq_pure (K.assign) rfl ?_
        dsimp only [setd, setn, ev, nth]
        refine K.seq_pure (K.assign) rfl ?_
        dsimp only [setd, setn, ev, nth]
        refine K.seq_nil ?_
        refine K.norm_block ?_
        refine K.norm_then ?_
        refine K.region_lit ?_
        refine K.seq_pure (K.add_i64 rfl rfl (by omega)) rfl ?_
        dsimp only [setd, setn, ev, nth]
        refine K.seq_pure (K.move) rfl ?_
        dsimp only [setd, setn, ev, nth]
        refine K.seq_nil ?_
        exact K.round_endW (L'' := [K.row (.slice Q1 (ptsS hs.length s).length q1) 3 1 (ptsS hs.length s).length ((ptsS hs.length s).flatMap K.eI), K.blk b6 94 [.int .i64 kind, .int .i64 base, .int .i64 most, .slice A hs.length c, .slice B rs.length d, .func (.func (90 + kind.toNat)) #[] #[]], K.blk b3 78 [.slice C l.length cc], K.blk b2 41 [.int .i64 kind, .int .i64 base, .int .i64 most, .slice A hs.length c, .slice B rs.length d]]) [.slice Q1 (ptsS hs.length s).length q1, .int .i64 (ptsS hs.length s).length, .int .i64 ((s : Int) + 1)] ⟨s + 1, Q1, q1, ((ptsS hs.length s), (ptsS hs.length s).length), rfl, rfl, tellF_t hG (by omega) hap (.inl (by unfold ptsS; omega)), by omega⟩ (by simp [K.nth, intOf]; omega) (List.Sublist.cons_cons _ (List.Sublist.cons _ (List.Sublist.refl _))) (by kernel_rfl)
      try replace hg88 := of_decide_eq_false hg88
      refine K.seq_pure (K.move) rfl ?_
      dsimp only [setd, setn, ev, nth]
      refine K.seq_pure (K.move) rfl ?_
      dsimp only [setd, setn, ev, nth]
      refine K.seq_call (K.call_g cal_69 (fun F w hF hw => c77 (xs := (ptsS hs.length s)) (ys := G0.1) (K.Rd.own hw (hF _ (K.m0)) hQ1 (fun _ => rfl) (by decide)) (K.Rd.own hw (hF _ (K.m1)) hQ0 (fun _ => rfl) (by decide)) (by unfold ptsS; omega) (by omega))) rfl ?_
      try dsimp only [setd, setn, ev, nth, over, cl, eI, eP, eT, List.map, List.append, List.drop, List.take]
      refine K.seq_pure (K.lss rfl rfl) rfl ?_
      dsimp only [setd, setn, ev, nth]
      refine K.seq_pure (K.pick_f rfl) rfl ?_
      dsimp only [setd, setn, ev, nth]
      refine K.seq_nil ?_
      refine K.norm_then ?_
      refine K.cond rfl (fun ht93 => ?_) (fun ht93 => ?_)
      · try replace ht93 := of_decide_eq_true ht93
        refine K.region_lit ?_
        refine K.seq_pure (K.move) rfl ?_
        dsimp only [setd, setn, ev, nth]
        refine K.seq_pure (K.move) rfl ?_
        dsimp only [setd, setn, ev, nth]
        refine K.seq_pure (K.len_sl sl_31 rfl) rfl ?_
        dsimp only [setd, setn, ev, nth]
        refine K.seq_pure (K.assign) rfl ?_
        dsimp only [setd, setn, ev, nth]
        refine K.seq_pure (K.assign) rfl ?_
        dsimp only [setd, setn, ev, nth]
        refine K.seq_nil ?_
        refine K.norm_block ?_
        refine K.norm_then ?_
        refine K.region_lit ?_
        refine K.seq_pure (K.add_i64 rfl rfl (by omega)) rfl ?_
        dsimp only [setd, setn, ev, nth]
        refine K.seq_pure (K.move) rfl ?_
        dsimp only [setd, setn, ev, nth]
        refine K.seq_nil ?_
        exact K.round_endW (L'' := [K.row (.slice Q1 (ptsS hs.length s).length q1) 3 1 (ptsS hs.length s).length ((ptsS hs.length s).flatMap K.eI), K.blk b6 94 [.int .i64 kind, .int .i64 base, .int .i64 most, .slice A hs.length c, .slice B rs.length d, .func (.func (90 + kind.toNat)) #[] #[]], K.blk b3 78 [.slice C l.length cc], K.blk b2 41 [.int .i64 kind, .int .i64 base, .int .i64 most, .slice A hs.length c, .slice B rs.length d]]) [.slice Q1 (ptsS hs.length s).length q1, .int .i64 (ptsS hs.length s).length, .int .i64 ((s : Int) + 1)] ⟨s + 1, Q1, q1, ((ptsS hs.length s), (ptsS hs.length s).length), rfl, rfl, tellF_t hG (by omega) hap (.inr ht93), by omega⟩ (by simp [K.nth, intOf]; omega) (List.Sublist.cons_cons _ (List.Sublist.cons _ (List.Sublist.refl _))) (by kernel_rfl)
      try replace ht93 := of_decide_eq_false ht93
      refine K.skip ?_
      refine K.norm_block ?_
      refine K.norm_then ?_
      refine K.region_lit ?_
      refine K.seq_pure (K.add_i64 rfl rfl (by omega)) rfl ?_
      dsimp only [setd, setn, ev, nth]
      refine K.seq_pure (K.move) rfl ?_
      dsimp only [setd, setn, ev, nth]
      refine K.seq_nil ?_
      exact K.round_endW (L'' := [K.row (.slice Q0 G0.1.length q0) 3 1 G0.1.length (G0.1.flatMap K.eI), K.blk b6 94 [.int .i64 kind, .int .i64 base, .int .i64 most, .slice A hs.length c, .slice B rs.length d, .func (.func (90 + kind.toNat)) #[] #[]], K.blk b3 78 [.slice C l.length cc], K.blk b2 41 [.int .i64 kind, .int .i64 base, .int .i64 most, .slice A hs.length c, .slice B rs.length d]]) [.slice Q0 G0.1.length q0, .int .i64 G0.2, .int .i64 ((s : Int) + 1)] ⟨s + 1, Q0, q0, G0, rfl, rfl, tellF_f hG (by omega) hap (fun h => h.elim (fun h => by unfold ptsS at h; omega) ht93), by omega⟩ (by simp [K.nth, intOf]; omega) (by (repeat (first | exact List.Sublist.refl _ | apply List.Sublist.cons)); done) (by kernel_rfl)
    try replace ht55 := of_decide_eq_false ht55
    refine K.exit ?_
    refine K.exit_then ?_
    refine K.exit_then ?_
    refine K.exit_here ?_
    refine K.norm_then ?_
    refine K.seq ?_
    refine K.region_lit ?_
    refine K.seq_pure (K.move) rfl ?_
    dsimp only [setd, setn, ev, nth]
    refine K.seq_pure (K.assign) rfl ?_
    dsimp only [setd, setn, ev, nth]
    refine K.seq_pure (K.assign) rfl ?_
    dsimp only [setd, setn, ev, nth]
    refine K.seq_nil ?_
    refine K.norm_then ?_
    refine K.ret ?_
    refine K.end_ret (fun w _ => K.res_tmp2 rfl w) ?_
    have hsn2 : s = N := by omega
    have hte := te_ok hc0 (by omega) hsc hap1
    exact K.rets_se (xs := tellR kind base most hs rs l) (List.Mem.head _) (by unfold tellR; rw [if_pos hte, hG, hsn2, hN]) (by unfold tellR; rw [if_pos hte, hG, hsn2, hN]) hte.symm rfl
  try replace hg20 := of_decide_eq_false hg20
  skip
  refine K.seq_skip ?_ ?_
  · rfl
  try dsimp only [setd, setn, ev, nth, over, cl, eI, eP, eT, List.map, List.append, List.drop, List.take]
  refine K.seq_skip ?_ ?_
  · rfl
  try dsimp only [setd, setn, ev, nth, over, cl, eI, eP, eT, List.map, List.append, List.drop, List.take]
  refine K.seq_skip ?_ ?_
  · rfl
  try dsimp only [setd, setn, ev, nth, over, cl, eI, eP, eT, List.map, List.append, List.drop, List.take]
  refine K.seq_pure (K.pick_f rfl) rfl ?_
  dsimp only [setd, setn, ev, nth]
  refine K.seq_nil ?_
  refine K.norm_then ?_
  refine K.cond_false rfl ?_
  refine K.skip ?_
  refine K.norm_then ?_
  refine K.seq ?_
  refine K.seq ?_
  refine K.region_lit ?_
  refine K.seq_pure (K.move) rfl ?_
  dsimp only [setd, setn, ev, nth]
  refine K.seq_pure (K.neq rfl rfl) rfl ?_
  dsimp only [setd, setn, ev, nth]
  refine K.seq_nil ?_
  refine K.norm_then ?_
  refine K.cond rfl (fun ht26 => ?_) (fun ht26 => ?_)
  · try replace ht26 := of_decide_eq_true ht26
    refine K.seq ?_
    refine K.region_lit ?_
    refine K.seq_pure (K.move) rfl ?_
    dsimp only [setd, setn, ev, nth]
    refine K.seq_pure (K.assign) rfl ?_
    dsimp only [setd, setn, ev, nth]
    refine K.seq_pure (K.assign) rfl ?_
    dsimp only [setd, setn, ev, nth]
    refine K.seq_nil ?_
    refine K.norm_then ?_
    refine K.ret ?_
    refine K.ret_then ?_
    refine K.end_ret (fun w _ => K.res_tmp2 rfl w) ?_
    exact K.rets_se0 (tr_bad (by rw [te_chk ht26]; exact ht26)) (te_chk ht26).symm rfl
  try replace ht26 := of_decide_eq_false ht26
  exact absurd hg20 ht26

end Go.Proofs.Ytfbglomliankmaa.Sc
end
section
set_option linter.unusedSimpArgs false
set_option linter.unusedVariables false
namespace Go.Proofs.Ytfbglomliankmaa.Sc
open Go.RowKit Go
open Go.K (setd setn ev nth over cl eI eP eT setM setF)
attribute [local irreducible] K.blk K.row

set_option maxRecDepth 100000 in
theorem e27 {kind base most : Int} {A B : Option Addr} {c d : Nat} {hs : List Int} {rs : List (Int × Int)} {limit : Int} {w : World} (hH : K.Rd w A 1 K.eI hs) (hR : K.Rd w B 2 K.eP rs) (hn : hs.length ≤ 4611686018427387904) (hm : rs.length ≤ 4611686018427387904) (he : (chk kind base most hs rs).2.2 ≠ 0) :
    Calls Try.prog 32 [.agg #[.int .i64 kind, .int .i64 base, .int .i64 most, .slice A hs.length c, .slice B rs.length d], .int .i64 limit].toArray w (K.Gives (.tuple #[.agg #[.int .i64 0, .int .i64 0], .int .i64 (chk kind base most hs rs).2.2]) w) := by
  refine K.enter (args := [.agg #[.int .i64 kind, .int .i64 base, .int .i64 most, .slice A hs.length c, .slice B rs.length d], .int .i64 limit]) Try.func32 rfl (n := 56) rfl ?_
  simp only [List.replicate, List.cons_append, List.nil_append]
  refine K.seq ?_
  refine K.region_lit ?_
  refine K.seq_new (K.box) rfl ?_
  intro b2
  try dsimp only [setd, setn, ev, nth, over, cl, eI, eP, eT, List.map, List.append, List.drop, List.take]
  refine K.seq_new (K.box) rfl ?_
  intro b3
  try dsimp only [setd, setn, ev, nth, over, cl, eI, eP, eT, List.map, List.append, List.drop, List.take]
  refine K.seq_new (K.alloc zr_36) rfl ?_
  intro b4
  try dsimp only [setd, setn, ev, nth, over, cl, eI, eP, eT, List.map, List.append, List.drop, List.take]
  refine K.seq_pure (K.assign) rfl ?_
  dsimp only [setd, setn, ev, nth]
  refine K.seq_nil ?_
  refine K.norm_then ?_
  refine K.scope ?_
  refine K.seq ?_
  refine K.region_lit ?_
  refine K.seq_sil (K.loadA_own ag_41 rfl (K.m2) rfl) rfl ?_
  try dsimp only [setd, setn, ev, nth, over, cl, eI, eP, eT, List.map, List.append, List.drop, List.take]
  refine K.seq_call (K.call_g cal_41 (fun F w hF hw => e58 (l := []) (hH.pass hw) (hR.pass hw) hn hm he)) rfl ?_
  try dsimp only [setd, setn, ev, nth, over, cl, eI, eP, eT, List.map, List.append, List.drop, List.take]
  refine K.seq_pure (K.move) rfl ?_
  dsimp only [setd, setn, ev, nth]
  refine K.seq_pure (K.extract rfl rfl) rfl ?_
  dsimp only [setd, setn, ev, nth]
  refine K.seq_pure (K.extract rfl rfl) rfl ?_
  dsimp only [setd, setn, ev, nth]
  refine K.seq_new (K.alloc zr_94) rfl ?_
  intro b6
  try dsimp only [setd, setn, ev, nth, over, cl, eI, eP, eT, List.map, List.append, List.drop, List.take]
  refine K.seq_st (K.store_all sz_94 rfl rfl rfl rfl (K.rp0)) rfl ?_
  try dsimp only [setd, setn, ev, nth, over, cl, eI, eP, eT, List.map, List.append, List.drop, List.take]
  refine K.seq_pure (K.assign) rfl ?_
  dsimp only [setd, setn, ev, nth]
  refine K.seq_nil ?_
  refine K.norm_then ?_
  refine K.seq ?_
  refine K.block ?_
  refine K.seq ?_
  refine K.region_lit ?_
  refine K.seq_pure (K.move) rfl ?_
  dsimp only [setd, setn, ev, nth]
  refine K.seq_pure (K.neq rfl rfl) rfl ?_
  dsimp only [setd, setn, ev, nth]
  refine K.seq_pure (K.assign) rfl ?_
  dsimp only [setd, setn, ev, nth]
  refine K.seq_nil ?_
  refine K.norm_then ?_
  refine K.cond rfl (fun ht17 => ?_) (fun ht17 => ?_)
  · try replace ht17 := of_decide_eq_true ht17
    refine K.seq ?_
    refine K.region_lit ?_
    refine K.seq_sil (K.loadA_own ag_36 rfl (K.m1) rfl) rfl ?_
    try dsimp only [setd, setn, ev, nth, over, cl, eI, eP, eT, List.map, List.append, List.drop, List.take]
    refine K.seq_pure (K.move) rfl ?_
    dsimp only [setd, setn, ev, nth]
    refine K.seq_st (K.store_all sz_36 rfl rfl rfl rfl (K.rp1)) rfl ?_
    try dsimp only [setd, setn, ev, nth, over, cl, eI, eP, eT, List.map, List.append, List.drop, List.take]
    refine K.seq_pure (K.assign) rfl ?_
    dsimp only [setd, setn, ev, nth]
    refine K.seq_nil ?_
    refine K.norm_then ?_
    refine K.ret ?_
    refine K.ret_block ?_
    refine K.ret_then ?_
    refine R.ng_ret ?_
    refine K.end_ret (fun w hw => K.res_ct rfl rfl (K.run_cellA ag_36 rfl (K.m1) rfl w hw)) ?_
    exact K.gives rfl
  try replace ht17 := of_decide_eq_false ht17
  exact absurd he ht17

set_option maxRecDepth 100000 in
theorem g27 {kind base most : Int} {A B : Option Addr} {c d : Nat} {hs : List Int} {rs : List (Int × Int)} {limit : Int} {w : World} (hH : K.Rd w A 1 K.eI hs) (hR : K.Rd w B 2 K.eP rs) (g : Good kind base most hs rs) :
    Calls Try.prog 32 [.agg #[.int .i64 kind, .int .i64 base, .int .i64 most, .slice A hs.length c, .slice B rs.length d], .int .i64 limit].toArray w (K.Gives (if 0 ≤ limit ∧ limit ≤ 1000000 then (if lastG (okG kind base most hs rs limit) SB = (0, 0) then .tuple #[.agg #[.int .i64 0, .int .i64 0], .int .i64 9] else .tuple #[.agg #[.int .i64 (lastG (okG kind base most hs rs limit) SB).1, .int .i64 (lastG (okG kind base most hs rs limit) SB).2], .int .i64 0]) else .tuple #[.agg #[.int .i64 0, .int .i64 0], .int .i64 7]) w) := by
  have g1 := g.k
  have g2 := g.n
  have g3 := g.r
  have g4 := g.b
  have g5 := g.m
  refine R.enter (args := [.agg #[.int .i64 kind, .int .i64 base, .int .i64 most, .slice A hs.length c, .slice B rs.length d], .int .i64 limit]) Try.func32 rfl (m := 56) rfl ?_
  simp only [List.replicate, List.cons_append, List.nil_append]
  refine R.seq ?_
  refine R.region_lit rfl ?_
  refine K.seq_new (K.box) rfl ?_
  intro b2
  try dsimp only [setd, setn, ev, nth, over, cl, eI, eP, eT, List.map, List.append, List.drop, List.take]
  refine K.seq_new (K.box) rfl ?_
  intro b3
  try dsimp only [setd, setn, ev, nth, over, cl, eI, eP, eT, List.map, List.append, List.drop, List.take]
  refine K.seq_new (K.alloc zr_36) rfl ?_
  intro b4
  try dsimp only [setd, setn, ev, nth, over, cl, eI, eP, eT, List.map, List.append, List.drop, List.take]
  refine K.seq_pure (K.assign) rfl ?_
  dsimp only [setd, setn, ev, nth]
  refine K.seq_nil ?_
  refine R.out ?_
  refine R.norm_then ?_
  refine R.scope ?_
  refine R.seq ?_
  refine R.region_lit rfl ?_
  refine K.seq_sil (K.loadA_own ag_41 rfl (K.m2) rfl) rfl ?_
  try dsimp only [setd, setn, ev, nth, over, cl, eI, eP, eT, List.map, List.append, List.drop, List.take]
  refine K.seq_call (K.call_g cal_41 (fun F w hF hw => c58 (l := []) (hH.pass hw) (hR.pass hw) g K.Rd.nil (by simp))) rfl ?_
  try dsimp only [setd, setn, ev, nth, over, cl, eI, eP, eT, List.map, List.append, List.drop, List.take]
  refine K.seq_pure (K.move) rfl ?_
  dsimp only [setd, setn, ev, nth]
  refine K.seq_pure (K.extract rfl rfl) rfl ?_
  dsimp only [setd, setn, ev, nth]
  refine K.seq_pure (K.extract rfl rfl) rfl ?_
  dsimp only [setd, setn, ev, nth]
  refine K.seq_new (K.alloc zr_94) rfl ?_
  intro b6
  try dsimp only [setd, setn, ev, nth, over, cl, eI, eP, eT, List.map, List.append, List.drop, List.take]
  refine K.seq_st (K.store_all sz_94 rfl rfl rfl rfl (K.rp0)) rfl ?_
  try dsimp only [setd, setn, ev, nth, over, cl, eI, eP, eT, List.map, List.append, List.drop, List.take]
  refine K.seq_pure (K.assign) rfl ?_
  dsimp only [setd, setn, ev, nth]
  refine K.seq_nil ?_
  refine R.out ?_
  refine R.norm_then ?_
  refine R.seq ?_
  refine R.block ?_
  refine R.seq ?_
  refine R.region_lit rfl ?_
  refine K.seq_pure (K.move) rfl ?_
  dsimp only [setd, setn, ev, nth]
  refine K.seq_pure (K.neq rfl rfl) rfl ?_
  dsimp only [setd, setn, ev, nth]
  refine K.seq_pure (K.assign) rfl ?_
  dsimp only [setd, setn, ev, nth]
  refine K.seq_nil ?_
  refine R.out ?_
  refine R.norm_then ?_
  refine R.cond rfl (fun ht17 => ?_) (fun ht17 => ?_)
  · try replace ht17 := of_decide_eq_true ht17
    exact absurd rfl ht17
  try replace ht17 := of_decide_eq_false ht17
  refine R.seq ?_
  refine R.region_lit rfl ?_
  refine K.seq_sil (K.load1_own one_3 rfl (K.m2) rfl) rfl ?_
  try dsimp only [setd, setn, ev, nth, over, cl, eI, eP, eT, List.map, List.append, List.drop, List.take]
  refine K.seq_new (K.buildSlice (bs1 _)) rfl ?_
  intro b24
  try dsimp only [setd, setn, ev, nth, over, cl, eI, eP, eT, List.map, List.append, List.drop, List.take]
  refine K.seq_call (K.call_g cal_59 (fun F w hF hw => c52_1 hw (hF _ (K.m0)))) rfl ?_
  try dsimp only [setd, setn, ev, nth, over, cl, eI, eP, eT, List.map, List.append, List.drop, List.take]
  refine K.seq_pure (K.assign) rfl ?_
  dsimp only [setd, setn, ev, nth]
  refine K.seq_nil ?_
  refine R.out ?_
  refine R.norm_then ?_
  refine R.cond rfl (fun ht22 => ?_) (fun ht22 => ?_)
  · try replace ht22 := of_decide_eq_true ht22
    refine R.seq ?_
    refine R.region_lit rfl ?_
    refine K.seq_sil (K.loadA_own ag_36 rfl (K.m2) rfl) rfl ?_
    try dsimp only [setd, setn, ev, nth, over, cl, eI, eP, eT, List.map, List.append, List.drop, List.take]
    refine K.seq_st (K.store_all sz_36 rfl rfl rfl rfl (K.rp2)) rfl ?_
    try dsimp only [setd, setn, ev, nth, over, cl, eI, eP, eT, List.map, List.append, List.drop, List.take]
    refine K.seq_pure (K.assign) rfl ?_
    dsimp only [setd, setn, ev, nth]
    refine K.seq_nil ?_
    refine R.out ?_
    refine R.norm_then ?_
    refine R.ret ?_
    refine R.ret_block ?_
    refine R.ret_then ?_
    refine R.ng_ret ?_
    refine R.end_ret (fun w hw => K.res_ct rfl rfl (K.run_cellA ag_36 rfl (K.m2) rfl w hw)) ?_
    exact K.gives (by rw [if_neg (by omega)]; rfl)
  try replace ht22 := of_decide_eq_false ht22
  refine R.skip ?_
  refine R.norm_block ?_
  refine R.norm_then ?_
  refine R.seq ?_
  refine R.label ?_
  refine R.norm_then ?_
  refine R.seq ?_
  refine R.seq ?_
  refine R.region_lit rfl ?_
  refine K.seq_call (K.call_g cal_60 (fun F w hF hw => c67 w)) rfl ?_
  try dsimp only [setd, setn, ev, nth, over, cl, eI, eP, eT, List.map, List.append, List.drop, List.take]
  refine K.seq_nil ?_
  refine R.out ?_
  refine R.norm_then ?_
  refine R.block ?_
  refine R.rangeF (gf := 80) (enc := (fun x : Int × Int => Value.agg #[.int .i64 x.1, .int .i64 x.2])) (XS := SB) rfl cal_80 c90 (fun k L => ∃ best : Int × Int, L = [K.blk b24 3 [.int .i64 limit], K.blk b6 94 [.int .i64 kind, .int .i64 base, .int .i64 most, .slice A hs.length c, .slice B rs.length d, .func (.func (90 + kind.toNat)) #[] #[]], K.blk b4 36 [.int .i64 best.1, .int .i64 best.2], K.blk b3 3 [.int .i64 limit], K.blk b2 41 [.int .i64 kind, .int .i64 base, .int .i64 most, .slice A hs.length c, .slice B rs.length d]] ∧ best = lastG (okG kind base most hs rs limit) (SB.take k)) (fun cX L => cX = .exit 1 ∧ ∃ best : Int × Int, L = [K.blk b24 3 [.int .i64 limit], K.blk b6 94 [.int .i64 kind, .int .i64 base, .int .i64 most, .slice A hs.length c, .slice B rs.length d, .func (.func (90 + kind.toNat)) #[] #[]], K.blk b4 36 [.int .i64 best.1, .int .i64 best.2], K.blk b3 3 [.int .i64 limit], K.blk b2 41 [.int .i64 kind, .int .i64 base, .int .i64 most, .slice A hs.length c, .slice B rs.length d]] ∧ best = lastG (okG kind base most hs rs limit) SB) ?_ ?_ ?_ ?_
  · exact ⟨(0, 0), rfl, rfl⟩
  · intro k x L lr E hx hJ
    obtain ⟨best, rfl, hbest⟩ := hJ
    have hp := sb_parts hx
    try dsimp only [List.cons_append, List.nil_append]
    try dsimp only [setd, setn, ev, nth, over, cl, eI, eP, eT, setM, setF, List.map, List.append, List.drop, List.take]
    refine R.region_lit rfl ?_
    refine K.seq_new (K.alloc zr_36) rfl ?_
    intro b7
    try dsimp only [setd, setn, ev, nth, over, cl, eI, eP, eT, List.map, List.append, List.drop, List.take]
    refine K.seq_st (K.store_all sz_36 rfl rfl rfl rfl (K.rp0)) rfl ?_
    try dsimp only [setd, setn, ev, nth, over, cl, eI, eP, eT, List.map, List.append, List.drop, List.take]
    refine K.seq_nil ?_
    refine R.out ?_
    refine R.norm_then ?_
    refine R.body' rfl (fun E => ?_)
    dsimp only [List.dropLast, List.cons_append, List.nil_append]
    try dsimp only [setd, setn, ev, nth, over, cl, eI, eP, eT, List.map, List.append, List.drop, List.take]
    refine R.block ?_
    refine R.seq ?_
    refine R.region_lit rfl ?_
    refine K.seq_sil (K.loadA_own ag_94 rfl (K.m2) rfl) rfl ?_
    try dsimp only [setd, setn, ev, nth, over, cl, eI, eP, eT, List.map, List.append, List.drop, List.take]
    refine K.seq_sil (K.loadA_own ag_36 rfl (K.m0) rfl) rfl ?_
    try dsimp only [setd, setn, ev, nth, over, cl, eI, eP, eT, List.map, List.append, List.drop, List.take]
    refine K.seq_call (K.call_g cal_42 (fun F w hF hw => c59 (u := x.1) (v := x.2) (hH.pass hw) g hp)) rfl ?_
    try dsimp only [setd, setn, ev, nth, over, cl, eI, eP, eT, List.map, List.append, List.drop, List.take]
    refine K.seq_pure (K.move) rfl ?_
    dsimp only [setd, setn, ev, nth]
    refine K.seq_pure (K.extract rfl rfl) rfl ?_
    dsimp only [setd, setn, ev, nth]
    refine K.seq_pure (K.extract rfl rfl) rfl ?_
    dsimp only [setd, setn, ev, nth]
    refine K.seq_new (K.alloc zr_98) rfl ?_
    intro b8
    try dsimp only [setd, setn, ev, nth, over, cl, eI, eP, eT, List.map, List.append, List.drop, List.take]
    refine K.seq_st (K.store_all sz_98 rfl rfl rfl rfl (K.rp0)) rfl ?_
    try dsimp only [setd, setn, ev, nth, over, cl, eI, eP, eT, List.map, List.append, List.drop, List.take]
    refine K.seq_pure (K.assign) rfl ?_
    dsimp only [setd, setn, ev, nth]
    refine K.seq_nil ?_
    refine R.out ?_
    refine R.norm_then ?_
    refine R.seq ?_
    refine R.seq ?_
    refine R.region_lit rfl ?_
    refine K.seq_pure (K.move) rfl ?_
    dsimp only [setd, setn, ev, nth]
    first | refine K.seq_pure (K.not_d rfl) rfl ?_ | refine K.seq_pure (K.not_ rfl) rfl ?_
    try dsimp only [setd, setn, ev, nth, over, cl, eI, eP, eT, List.map, List.append, List.drop, List.take]
    refine K.seq_nil ?_
    refine R.out ?_
    refine R.norm_then ?_
    refine R.cond rfl (fun ht36 => ?_) (fun ht36 => ?_)
    · try replace ht36 := of_decide_eq_true ht36
      have hfit : fitP kind base most hs x = false := by unfold fitP; simpa using ht36
      refine R.exit ?_
      refine R.exit_then ?_
      refine R.exit_out rfl ?_
      exact R.rp_exit (L := [K.blk b24 3 [.int .i64 limit], K.blk b6 94 [.int .i64 kind, .int .i64 base, .int .i64 most, .slice A hs.length c, .slice B rs.length d, .func (.func (90 + kind.toNat)) #[] #[]], K.blk b4 36 [.int .i64 best.1, .int .i64 best.2], K.blk b3 3 [.int .i64 limit], K.blk b2 41 [.int .i64 kind, .int .i64 base, .int .i64 most, .slice A hs.length c, .slice B rs.length d]]) ⟨rfl, best, rfl, by rw [hbest, lastG_cut g hx hfit]⟩ (by repeat (first | exact List.Sublist.refl _ | apply List.Sublist.cons))
    try replace ht36 := of_decide_eq_false ht36
    have hfit : fitP kind base most hs x = true := by unfold fitP; simpa using ht36
    refine R.skip ?_
    refine R.norm_then ?_
    refine R.seq ?_
    refine R.seq ?_
    refine R.region_lit rfl ?_
    refine K.seq_pure (K.fieldAddr_lit fo_41_4 rfl) rfl ?_
    dsimp only [setd, setn, ev, nth]
    refine K.seq_sil (K.load1_own one_39 rfl (K.m6) rfl) rfl ?_
    try dsimp only [setd, setn, ev, nth, over, cl, eI, eP, eT, List.map, List.append, List.drop, List.take]
    refine K.seq_pure (K.len_sl sl_39 rfl) rfl ?_
    dsimp only [setd, setn, ev, nth]
    refine K.seq_pure (K.move) rfl ?_
    dsimp only [setd, setn, ev, nth]
    refine K.seq_nil ?_
    refine R.out ?_
    refine R.norm_then ?_
    refine R.block ?_
    refine R.loopW [40] [11, 41, 42, 43, 44, 45, 46, 47, 48, 49, 50, 51] (fun vi L => ∃ j : Nat, vi = [.int .i64 (j : Int)] ∧ L = [K.blk b8 98 (a8 (cuts kind base x.1 x.2 hs)), K.blk b7 36 [.int .i64 x.1, .int .i64 x.2], K.blk b24 3 [.int .i64 limit], K.blk b6 94 [.int .i64 kind, .int .i64 base, .int .i64 most, .slice A hs.length c, .slice B rs.length d, .func (.func (90 + kind.toNat)) #[] #[]], K.blk b4 36 [.int .i64 best.1, .int .i64 best.2], K.blk b3 3 [.int .i64 limit], K.blk b2 41 [.int .i64 kind, .int .i64 base, .int .i64 most, .slice A hs.length c, .slice B rs.length d], E] ∧ j ≤ rs.length ∧ ∀ i, i < j → offP kind base hs x (rs.getD i default) ≤ limit) (fun vi => rs.length - (intOf (K.nth vi 0)).toNat) ?_ ?_
    · exact ⟨0, rfl, rfl, Nat.zero_le _, fun i hi => absurd hi (Nat.not_lt_zero i)⟩
    intro vi vr L hJ
    obtain ⟨j, rfl, rfl, hjn, hall⟩ := hJ
    try dsimp only [setd, setn, ev, nth, over, cl, eI, eP, eT, setM, setF, List.map, List.append, List.drop, List.take]
    refine R.seq ?_
    refine R.region_lit rfl ?_
    refine K.seq_pure (K.lss rfl rfl) rfl ?_
    dsimp only [setd, setn, ev, nth]
    refine K.seq_nil ?_
    refine R.out ?_
    refine R.norm_then ?_
    refine R.seq ?_
    refine R.cond rfl (fun ht41 => ?_) (fun ht41 => ?_)
    · try replace ht41 := of_decide_eq_true ht41
      have hj : j < rs.length := by omega
      refine R.skip ?_
      refine R.norm_then ?_
      refine R.seq ?_
      refine R.block ?_
      refine R.seq ?_
      refine R.region_lit rfl ?_
      refine K.seq_ix (M := []) _ hR.sl sl_39 rfl rfl rfl (by omega) rfl ?_
      intro p42 hp42
      try dsimp only [setd, setn, ev, nth, over, cl, eI, eP, eT, List.map, List.append, List.drop, List.take]
      refine K.seq_sil (K.loadA_p ag_124 rfl (hp42.any) rfl) rfl ?_
      try dsimp only [setd, setn, ev, nth, over, cl, eI, eP, eT, List.map, List.append, List.drop, List.take]
      refine K.seq_new (K.alloc zr_124) rfl ?_
      intro b11
      try dsimp only [setd, setn, ev, nth, over, cl, eI, eP, eT, List.map, List.append, List.drop, List.take]
      refine K.seq_st (K.store_all sz_124 rfl rfl rfl rfl (K.rp0)) rfl ?_
      try dsimp only [setd, setn, ev, nth, over, cl, eI, eP, eT, List.map, List.append, List.drop, List.take]
      refine K.seq_nil ?_
      refine R.out ?_
      refine R.norm_then ?_
      refine R.seq ?_
      refine R.draw_L [] Try_mixed rfl ?_
      refine K.d_mem 0 rfl (K.loadA_own ag_94 rfl (K.m4) rfl) (fun _ h => h) (by kernel_rfl) (by kernel_rfl) rfl ?_
      try dsimp only [setd, setn, ev, nth, over, cl, eI, eP, eT, List.map, List.append, List.drop, List.take]
      refine K.d_mem 1 rfl (K.loadA_own ag_124 rfl (K.m0) rfl) (fun _ h => h) (by kernel_rfl) (by kernel_rfl) rfl ?_
      try dsimp only [setd, setn, ev, nth, over, cl, eI, eP, eT, List.map, List.append, List.drop, List.take]
      refine K.d_mem 2 rfl (K.loadA_own ag_36 rfl (K.m2) rfl) (fun _ h => h) (by kernel_rfl) (by kernel_rfl) rfl ?_
      try dsimp only [setd, setn, ev, nth, over, cl, eI, eP, eT, List.map, List.append, List.drop, List.take]
      refine K.d_mem 3 rfl (K.loadA_own ag_98 rfl ((K.m1)) rfl) (fun _ h => h) (by kernel_rfl) (by kernel_rfl) rfl ?_
      try dsimp only [setd, setn, ev, nth, over, cl, eI, eP, eT, List.map, List.append, List.drop, List.take]
      refine K.d_mem 5 rfl (K.load1_own one_3 rfl (K.m6) rfl) (fun _ h => h) (by kernel_rfl) (by kernel_rfl) rfl ?_
      try dsimp only [setd, setn, ev, nth, over, cl, eI, eP, eT, List.map, List.append, List.drop, List.take]
      refine K.d_call 4 rfl (K.call_g cal_57 (fun F w hF hw => c62 (r := rs.getD j default) (cs := (cuts kind base x.1 x.2 hs)) (hH.pass hw) (g.road4 hj) (by omega) g.bdh (g.bdc hp) hp)) (fun _ h => h) (by kernel_rfl) rfl ?_
      try dsimp only [setd, setn, ev, nth, over, cl, eI, eP, eT, List.map, List.append, List.drop, List.take]
      refine K.d_pure 6 rfl (K.gtr rfl rfl) (by kernel_rfl) rfl ?_
      dsimp only [setd, setn, ev, nth]
      refine K.d_done (by kernel_rfl) ?_
      refine R.out ?_
      refine R.norm_then ?_
      refine R.cond rfl (fun ht50 => ?_) (fun ht50 => ?_)
      · try replace ht50 := of_decide_eq_true ht50
        refine R.exit ?_
        refine R.exit_out rfl ?_
        refine R.exit_then ?_
        refine R.exit_then ?_
        refine R.exit_out rfl ?_
        refine R.exit_then ?_
        refine R.exit_here ?_
        exact R.rp_normal (L := [K.blk b24 3 [.int .i64 limit], K.blk b6 94 [.int .i64 kind, .int .i64 base, .int .i64 most, .slice A hs.length c, .slice B rs.length d, .func (.func (90 + kind.toNat)) #[] #[]], K.blk b4 36 [.int .i64 best.1, .int .i64 best.2], K.blk b3 3 [.int .i64 limit], K.blk b2 41 [.int .i64 kind, .int .i64 base, .int .i64 most, .slice A hs.length c, .slice B rs.length d]]) ⟨best, rfl, by rw [take_snoc hx, lastG_f (okG_f (roadP_not hj ht50)), hbest]⟩ (by repeat (first | exact List.Sublist.refl _ | apply List.Sublist.cons))
      try replace ht50 := of_decide_eq_false ht50
      refine R.skip ?_
      refine R.norm_block ?_
      refine R.norm_then ?_
      refine R.region_lit rfl ?_
      refine K.seq_pure (K.add_i64 rfl rfl (by omega)) rfl ?_
      dsimp only [setd, setn, ev, nth]
      refine K.seq_pure (K.move) rfl ?_
      dsimp only [setd, setn, ev, nth]
      refine K.seq_nil ?_
      refine R.out ?_
      exact R.round_endW [.int .i64 ((j : Int) + 1)] ⟨j + 1, rfl, rfl, by omega, K.lt_succ_case hall (Int.not_lt.1 ht50)⟩ (by simp [K.nth, intOf]; omega) (by repeat (first | exact List.Sublist.refl _ | apply List.Sublist.cons)) (by kernel_rfl)
    try replace ht41 := of_decide_eq_false ht41
    refine R.exit ?_
    refine R.exit_then ?_
    refine R.exit_then ?_
    refine R.exit_here ?_
    refine R.norm_then ?_
    refine R.region_lit rfl ?_
    refine K.seq_sil (K.loadA_own ag_36 rfl (K.m1) rfl) rfl ?_
    try dsimp only [setd, setn, ev, nth, over, cl, eI, eP, eT, List.map, List.append, List.drop, List.take]
    refine K.seq_st (K.store_all sz_36 rfl rfl rfl rfl (K.rp4)) rfl ?_
    try dsimp only [setd, setn, ev, nth, over, cl, eI, eP, eT, List.map, List.append, List.drop, List.take]
    refine K.seq_nil ?_
    refine R.out ?_
    refine R.norm_block ?_
    exact R.rp_normal (L := [K.blk b24 3 [.int .i64 limit], K.blk b6 94 [.int .i64 kind, .int .i64 base, .int .i64 most, .slice A hs.length c, .slice B rs.length d, .func (.func (90 + kind.toNat)) #[] #[]], K.blk b4 36 [.int .i64 x.1, .int .i64 x.2], K.blk b3 3 [.int .i64 limit], K.blk b2 41 [.int .i64 kind, .int .i64 base, .int .i64 most, .slice A hs.length c, .slice B rs.length d]]) ⟨x, rfl, by rw [take_snoc hx, lastG_t (okG_t hfit (roadP_all (fun i hi => hall i (by omega))))]⟩ (by repeat (first | exact List.Sublist.refl _ | apply List.Sublist.cons))
  · intro bD L hJ
    obtain ⟨best, rfl, hbest⟩ := hJ
    rw [List.take_length] at hbest
    try dsimp only [List.cons_append, List.nil_append]
    try dsimp only [setd, setn, ev, nth, over, cl, eI, eP, eT, setM, setF, List.map, List.append, List.drop, List.take]
    refine R.norm_block ?_
    refine R.norm_then ?_
    refine R.seq ?_
    refine R.seq ?_
    refine R.region_lit rfl ?_
    refine K.seq_sil (K.loadA_own ag_36 rfl (K.m2) rfl) rfl ?_
    try dsimp only [setd, setn, ev, nth, over, cl, eI, eP, eT, List.map, List.append, List.drop, List.take]
    refine K.seq_pure (K.build (bl27z)) rfl ?_
    try dsimp only [setd, setn, ev, nth, over, cl, eI, eP, eT, List.map, List.append, List.drop, List.take]
    refine K.seq_pure (K.eql_s2 s2_27 rfl rfl) rfl ?_
    dsimp only [setd, setn, ev, nth]
    refine K.seq_nil ?_
    refine R.out ?_
    refine R.norm_then ?_
    refine R.cond rfl (fun ht55 => ?_) (fun ht55 => ?_)
    · try replace ht55 := of_decide_eq_true ht55
      refine R.seq ?_
      refine R.region_lit rfl ?_
      refine K.seq_sil (K.loadA_own ag_36 rfl (K.m2) rfl) rfl ?_
      try dsimp only [setd, setn, ev, nth, over, cl, eI, eP, eT, List.map, List.append, List.drop, List.take]
      refine K.seq_st (K.store_all sz_36 rfl rfl rfl rfl (K.rp2)) rfl ?_
      try dsimp only [setd, setn, ev, nth, over, cl, eI, eP, eT, List.map, List.append, List.drop, List.take]
      refine K.seq_pure (K.assign) rfl ?_
      dsimp only [setd, setn, ev, nth]
      refine K.seq_nil ?_
      refine R.out ?_
      refine R.norm_then ?_
      refine R.ret ?_
      refine R.ret_then ?_
      refine R.ng_ret ?_
      refine R.end_ret1 rfl (by dsimp only [List.dropLast]; exact (fun w hw => K.res_ct rfl rfl (K.run_cellA ag_36 rfl (K.m2) rfl w hw))) ?_
      dsimp only [List.dropLast]
      have hb0 : best = (0, 0) := ht55
      exact K.gives (by rw [if_pos (by omega), if_pos (by rw [← hbest]; exact hb0), hb0]; rfl)
    try replace ht55 := of_decide_eq_false ht55
    refine R.skip ?_
    refine R.norm_then ?_
    refine R.seq ?_
    refine R.region_lit rfl ?_
    refine K.seq_sil (K.loadA_own ag_36 rfl (K.m2) rfl) rfl ?_
    try dsimp only [setd, setn, ev, nth, over, cl, eI, eP, eT, List.map, List.append, List.drop, List.take]
    refine K.seq_st (K.store_all sz_36 rfl rfl rfl rfl (K.rp2)) rfl ?_
    try dsimp only [setd, setn, ev, nth, over, cl, eI, eP, eT, List.map, List.append, List.drop, List.take]
    refine K.seq_pure (K.assign) rfl ?_
    dsimp only [setd, setn, ev, nth]
    refine K.seq_nil ?_
    refine R.out ?_
    refine R.norm_then ?_
    refine R.ret ?_
    refine R.ng_ret ?_
    refine R.end_ret1 rfl (by dsimp only [List.dropLast]; exact (fun w hw => K.res_ct rfl rfl (K.run_cellA ag_36 rfl (K.m2) rfl w hw))) ?_
    dsimp only [List.dropLast]
    exact K.gives (by rw [if_pos (by omega), if_neg (by rw [← hbest]; exact ht55), ← hbest]; rfl)
  · intro bD cx L hJ
    obtain ⟨rfl, best, rfl, hbest⟩ := hJ
    try dsimp only [List.cons_append, List.nil_append]
    try dsimp only [setd, setn, ev, nth, over, cl, eI, eP, eT, setM, setF, List.map, List.append, List.drop, List.take]
    refine R.exit ?_
    refine R.exit_here ?_
    refine R.norm_then ?_
    refine R.seq ?_
    refine R.seq ?_
    refine R.region_lit rfl ?_
    refine K.seq_sil (K.loadA_own ag_36 rfl (K.m2) rfl) rfl ?_
    try dsimp only [setd, setn, ev, nth, over, cl, eI, eP, eT, List.map, List.append, List.drop, List.take]
    refine K.seq_pure (K.build (bl27z)) rfl ?_
    try dsimp only [setd, setn, ev, nth, over, cl, eI, eP, eT, List.map, List.append, List.drop, List.take]
    refine K.seq_pure (K.eql_s2 s2_27 rfl rfl) rfl ?_
    dsimp only [setd, setn, ev, nth]
    refine K.seq_nil ?_
    refine R.out ?_
    refine R.norm_then ?_
    refine R.cond rfl (fun ht55 => ?_) (fun ht55 => ?_)
    · try replace ht55 := of_decide_eq_true ht55
      refine R.seq ?_
      refine R.region_lit rfl ?_
      refine K.seq_sil (K.loadA_own ag_36 rfl (K.m2) rfl) rfl ?_
      try dsimp only [setd, setn, ev, nth, over, cl, eI, eP, eT, List.map, List.append, List.drop, List.take]
      refine K.seq_st (K.store_all sz_36 rfl rfl rfl rfl (K.rp2)) rfl ?_
      try dsimp only [setd, setn, ev, nth, over, cl, eI, eP, eT, List.map, List.append, List.drop, List.take]
      refine K.seq_pure (K.assign) rfl ?_
      dsimp only [setd, setn, ev, nth]
      refine K.seq_nil ?_
      refine R.out ?_
      refine R.norm_then ?_
      refine R.ret ?_
      refine R.ret_then ?_
      refine R.ng_ret ?_
      refine R.end_ret1 rfl (by dsimp only [List.dropLast]; exact (fun w hw => K.res_ct rfl rfl (K.run_cellA ag_36 rfl (K.m2) rfl w hw))) ?_
      dsimp only [List.dropLast]
      have hb0 : best = (0, 0) := ht55
      exact K.gives (by rw [if_pos (by omega), if_pos (by rw [← hbest]; exact hb0), hb0]; rfl)
    try replace ht55 := of_decide_eq_false ht55
    refine R.skip ?_
    refine R.norm_then ?_
    refine R.seq ?_
    refine R.region_lit rfl ?_
    refine K.seq_sil (K.loadA_own ag_36 rfl (K.m2) rfl) rfl ?_
    try dsimp only [setd, setn, ev, nth, over, cl, eI, eP, eT, List.map, List.append, List.drop, List.take]
    refine K.seq_st (K.store_all sz_36 rfl rfl rfl rfl (K.rp2)) rfl ?_
    try dsimp only [setd, setn, ev, nth, over, cl, eI, eP, eT, List.map, List.append, List.drop, List.take]
    refine K.seq_pure (K.assign) rfl ?_
    dsimp only [setd, setn, ev, nth]
    refine K.seq_nil ?_
    refine R.out ?_
    refine R.norm_then ?_
    refine R.ret ?_
    refine R.ng_ret ?_
    refine R.end_ret1 rfl (by dsimp only [List.dropLast]; exact (fun w hw => K.res_ct rfl rfl (K.run_cellA ag_36 rfl (K.m2) rfl w hw))) ?_
    dsimp only [List.dropLast]
    exact K.gives (by rw [if_pos (by omega), if_neg (by rw [← hbest]; exact ht55), ← hbest]; rfl)

end Go.Proofs.Ytfbglomliankmaa.Sc
end
section
set_option linter.unusedSimpArgs false
set_option linter.unusedVariables false
namespace Go.Proofs.Ytfbglomliankmaa.Sc
open Go.RowKit Go
open Go.K (setd setn ev nth over cl eI eP eT setM setF)
attribute [local irreducible] K.blk K.row

set_option maxRecDepth 100000 in
theorem e29 {kind base most : Int} {A B : Option Addr} {c d : Nat} {hs : List Int} {rs : List (Int × Int)} {w : World} (hH : K.Rd w A 1 K.eI hs) (hR : K.Rd w B 2 K.eP rs) (hn : hs.length ≤ 4611686018427387904) (hm : rs.length ≤ 4611686018427387904) (he : (chk kind base most hs rs).2.2 ≠ 0) :
    Calls Try.prog 33 [.agg #[.int .i64 kind, .int .i64 base, .int .i64 most, .slice A hs.length c, .slice B rs.length d]].toArray w (K.Gives (.tuple #[.agg #[.int .i64 0, .int .i64 0], .int .i64 (chk kind base most hs rs).2.2]) w) := by
  refine K.enter (args := [.agg #[.int .i64 kind, .int .i64 base, .int .i64 most, .slice A hs.length c, .slice B rs.length d]]) Try.func33 rfl (n := 34) rfl ?_
  simp only [List.replicate, List.cons_append, List.nil_append]
  refine K.seq ?_
  refine K.region_lit ?_
  refine K.seq_new (K.box) rfl ?_
  intro b1
  try dsimp only [setd, setn, ev, nth, over, cl, eI, eP, eT, List.map, List.append, List.drop, List.take]
  refine K.seq_new (K.alloc zr_36) rfl ?_
  intro b2
  try dsimp only [setd, setn, ev, nth, over, cl, eI, eP, eT, List.map, List.append, List.drop, List.take]
  refine K.seq_new (K.alloc zr_27) rfl ?_
  intro b3
  try dsimp only [setd, setn, ev, nth, over, cl, eI, eP, eT, List.map, List.append, List.drop, List.take]
  refine K.seq_nil ?_
  refine K.norm_then ?_
  refine K.seq ?_
  refine K.region_lit ?_
  refine K.seq_sil (K.loadA_own ag_41 rfl (K.m2) rfl) rfl ?_
  try dsimp only [setd, setn, ev, nth, over, cl, eI, eP, eT, List.map, List.append, List.drop, List.take]
  refine K.seq_call (K.call_g cal_41 (fun F w hF hw => e58 (l := []) (hH.pass hw) (hR.pass hw) hn hm he)) rfl ?_
  try dsimp only [setd, setn, ev, nth, over, cl, eI, eP, eT, List.map, List.append, List.drop, List.take]
  refine K.seq_pure (K.move) rfl ?_
  dsimp only [setd, setn, ev, nth]
  refine K.seq_pure (K.extract rfl rfl) rfl ?_
  dsimp only [setd, setn, ev, nth]
  refine K.seq_pure (K.extract rfl rfl) rfl ?_
  dsimp only [setd, setn, ev, nth]
  refine K.seq_new (K.alloc zr_94) rfl ?_
  intro b4
  try dsimp only [setd, setn, ev, nth, over, cl, eI, eP, eT, List.map, List.append, List.drop, List.take]
  refine K.seq_st (K.store_all sz_94 rfl rfl rfl rfl (K.rp0)) rfl ?_
  try dsimp only [setd, setn, ev, nth, over, cl, eI, eP, eT, List.map, List.append, List.drop, List.take]
  refine K.seq_pure (K.assign) rfl ?_
  dsimp only [setd, setn, ev, nth]
  refine K.seq_nil ?_
  refine K.norm_then ?_
  refine K.seq ?_
  refine K.seq ?_
  refine K.region_lit ?_
  refine K.seq_pure (K.move) rfl ?_
  dsimp only [setd, setn, ev, nth]
  refine K.seq_pure (K.neq rfl rfl) rfl ?_
  dsimp only [setd, setn, ev, nth]
  refine K.seq_nil ?_
  refine K.norm_then ?_
  refine K.cond rfl (fun ht15 => ?_) (fun ht15 => ?_)
  · try replace ht15 := of_decide_eq_true ht15
    refine K.seq ?_
    refine K.region_lit ?_
    refine K.seq_pure (K.build (bl27z)) rfl ?_
    try dsimp only [setd, setn, ev, nth, over, cl, eI, eP, eT, List.map, List.append, List.drop, List.take]
    refine K.seq_pure (K.move) rfl ?_
    dsimp only [setd, setn, ev, nth]
    refine K.seq_st (K.store_all sz_36 rfl rfl rfl rfl (K.rp2)) rfl ?_
    try dsimp only [setd, setn, ev, nth, over, cl, eI, eP, eT, List.map, List.append, List.drop, List.take]
    refine K.seq_st (K.store sz_27 rfl rfl rfl rfl (K.rp1)) rfl ?_
    try dsimp only [setd, setn, ev, nth, over, cl, eI, eP, eT, List.map, List.append, List.drop, List.take]
    refine K.seq_nil ?_
    refine K.norm_then ?_
    refine K.ret ?_
    refine K.ret_then ?_
    refine K.end_ret (fun w hw => K.res_cc rfl rfl rfl (K.run_cellA ag_36 rfl (K.m2) rfl w hw) (K.run_cell1 one_27 rfl (K.m1) w hw)) ?_
    exact K.gives rfl
  try replace ht15 := of_decide_eq_false ht15
  exact absurd he ht15

set_option maxRecDepth 100000 in
theorem g29 {kind base most : Int} {A B : Option Addr} {c d : Nat} {hs : List Int} {rs : List (Int × Int)} {w : World} (hH : K.Rd w A 1 K.eI hs) (hR : K.Rd w B 2 K.eP rs) (g : Good kind base most hs rs) :
    Calls Try.prog 33 [.agg #[.int .i64 kind, .int .i64 base, .int .i64 most, .slice A hs.length c, .slice B rs.length d]].toArray w (K.Gives (if frstG (okL kind base most hs rs) SB = (0, 0) then .tuple #[.agg #[.int .i64 0, .int .i64 0], .int .i64 9] else .tuple #[.agg #[.int .i64 (frstG (okL kind base most hs rs) SB).1, .int .i64 (frstG (okL kind base most hs rs) SB).2], .int .i64 0]) w) := by
  have g1 := g.k
  have g2 := g.n
  have g3 := g.r
  have g4 := g.b
  have g5 := g.m
  refine R.enter (args := [.agg #[.int .i64 kind, .int .i64 base, .int .i64 most, .slice A hs.length c, .slice B rs.length d]]) Try.func33 rfl (m := 34) rfl ?_
  simp only [List.replicate, List.cons_append, List.nil_append]
  refine R.seq ?_
  refine R.region_lit rfl ?_
  refine K.seq_new (K.box) rfl ?_
  intro b1
  try dsimp only [setd, setn, ev, nth, over, cl, eI, eP, eT, List.map, List.append, List.drop, List.take]
  refine K.seq_new (K.alloc zr_36) rfl ?_
  intro b2
  try dsimp only [setd, setn, ev, nth, over, cl, eI, eP, eT, List.map, List.append, List.drop, List.take]
  refine K.seq_new (K.alloc zr_27) rfl ?_
  intro b3
  try dsimp only [setd, setn, ev, nth, over, cl, eI, eP, eT, List.map, List.append, List.drop, List.take]
  refine K.seq_nil ?_
  refine R.out ?_
  refine R.norm_then ?_
  refine R.seq ?_
  refine R.region_lit rfl ?_
  refine K.seq_sil (K.loadA_own ag_41 rfl (K.m2) rfl) rfl ?_
  try dsimp only [setd, setn, ev, nth, over, cl, eI, eP, eT, List.map, List.append, List.drop, List.take]
  refine K.seq_call (K.call_g cal_41 (fun F w hF hw => c58 (l := []) (hH.pass hw) (hR.pass hw) g K.Rd.nil (by simp))) rfl ?_
  try dsimp only [setd, setn, ev, nth, over, cl, eI, eP, eT, List.map, List.append, List.drop, List.take]
  refine K.seq_pure (K.move) rfl ?_
  dsimp only [setd, setn, ev, nth]
  refine K.seq_pure (K.extract rfl rfl) rfl ?_
  dsimp only [setd, setn, ev, nth]
  refine K.seq_pure (K.extract rfl rfl) rfl ?_
  dsimp only [setd, setn, ev, nth]
  refine K.seq_new (K.alloc zr_94) rfl ?_
  intro b4
  try dsimp only [setd, setn, ev, nth, over, cl, eI, eP, eT, List.map, List.append, List.drop, List.take]
  refine K.seq_st (K.store_all sz_94 rfl rfl rfl rfl (K.rp0)) rfl ?_
  try dsimp only [setd, setn, ev, nth, over, cl, eI, eP, eT, List.map, List.append, List.drop, List.take]
  refine K.seq_pure (K.assign) rfl ?_
  dsimp only [setd, setn, ev, nth]
  refine K.seq_nil ?_
  refine R.out ?_
  refine R.norm_then ?_
  refine R.seq ?_
  refine R.seq ?_
  refine R.region_lit rfl ?_
  refine K.seq_pure (K.move) rfl ?_
  dsimp only [setd, setn, ev, nth]
  refine K.seq_pure (K.neq rfl rfl) rfl ?_
  dsimp only [setd, setn, ev, nth]
  refine K.seq_nil ?_
  refine R.out ?_
  refine R.norm_then ?_
  refine R.cond rfl (fun ht15 => ?_) (fun ht15 => ?_)
  · try replace ht15 := of_decide_eq_true ht15
    exact absurd rfl ht15
  try replace ht15 := of_decide_eq_false ht15
  refine R.skip ?_
  refine R.norm_then ?_
  refine R.seq ?_
  refine R.seq ?_
  refine R.region_lit rfl ?_
  refine K.seq_call (K.call_g cal_60 (fun F w hF hw => c67 w)) rfl ?_
  try dsimp only [setd, setn, ev, nth, over, cl, eI, eP, eT, List.map, List.append, List.drop, List.take]
  refine K.seq_nil ?_
  refine R.out ?_
  refine R.norm_then ?_
  refine R.block ?_
  refine R.rangeF (gf := 80) (enc := (fun x : Int × Int => Value.agg #[.int .i64 x.1, .int .i64 x.2])) (XS := SB) rfl cal_80 c90 (fun k L => L = [K.blk b4 94 [.int .i64 kind, .int .i64 base, .int .i64 most, .slice A hs.length c, .slice B rs.length d, .func (.func (90 + kind.toNat)) #[] #[]], K.blk b3 27 [.int .i64 0], K.blk b2 36 [.int .i64 0, .int .i64 0], K.blk b1 41 [.int .i64 kind, .int .i64 base, .int .i64 most, .slice A hs.length c, .slice B rs.length d]] ∧ ∀ s ∈ SB.take k, (okL kind base most hs rs) s = false) (fun cX L => cX = .ret ∧ ∃ best : Int × Int, L = [K.blk b4 94 [.int .i64 kind, .int .i64 base, .int .i64 most, .slice A hs.length c, .slice B rs.length d, .func (.func (90 + kind.toNat)) #[] #[]], K.blk b3 27 [.int .i64 0], K.blk b2 36 [.int .i64 best.1, .int .i64 best.2], K.blk b1 41 [.int .i64 kind, .int .i64 base, .int .i64 most, .slice A hs.length c, .slice B rs.length d]] ∧ best = frstG (okL kind base most hs rs) SB ∧ best ≠ (0, 0)) ?_ ?_ ?_ ?_
  · exact ⟨rfl, by simp⟩
  · intro k x L lr E hx hJ
    obtain ⟨rfl, hall⟩ := hJ
    have hp := sb_parts hx
    try dsimp only [List.cons_append, List.nil_append]
    try dsimp only [setd, setn, ev, nth, over, cl, eI, eP, eT, setM, setF, List.map, List.append, List.drop, List.take]
    refine R.region_lit rfl ?_
    refine K.seq_new (K.alloc zr_36) rfl ?_
    intro b6
    try dsimp only [setd, setn, ev, nth, over, cl, eI, eP, eT, List.map, List.append, List.drop, List.take]
    refine K.seq_st (K.store_all sz_36 rfl rfl rfl rfl (K.rp0)) rfl ?_
    try dsimp only [setd, setn, ev, nth, over, cl, eI, eP, eT, List.map, List.append, List.drop, List.take]
    refine K.seq_nil ?_
    refine R.out ?_
    refine R.norm_then ?_
    refine R.body' rfl (fun E => ?_)
    dsimp only [List.dropLast, List.cons_append, List.nil_append]
    try dsimp only [setd, setn, ev, nth, over, cl, eI, eP, eT, List.map, List.append, List.drop, List.take]
    refine R.block ?_
    refine R.seq ?_
    refine R.region_lit rfl ?_
    refine K.seq_sil (K.loadA_own ag_94 rfl (K.m1) rfl) rfl ?_
    try dsimp only [setd, setn, ev, nth, over, cl, eI, eP, eT, List.map, List.append, List.drop, List.take]
    refine K.seq_sil (K.loadA_own ag_36 rfl (K.m0) rfl) rfl ?_
    try dsimp only [setd, setn, ev, nth, over, cl, eI, eP, eT, List.map, List.append, List.drop, List.take]
    refine K.seq_call (K.call_g cal_42 (fun F w hF hw => c59 (u := x.1) (v := x.2) (hH.pass hw) g hp)) rfl ?_
    try dsimp only [setd, setn, ev, nth, over, cl, eI, eP, eT, List.map, List.append, List.drop, List.take]
    refine K.seq_pure (K.move) rfl ?_
    dsimp only [setd, setn, ev, nth]
    refine K.seq_pure (K.extract rfl rfl) rfl ?_
    dsimp only [setd, setn, ev, nth]
    refine K.seq_pure (K.extract rfl rfl) rfl ?_
    dsimp only [setd, setn, ev, nth]
    refine K.seq_new (K.alloc zr_98) rfl ?_
    intro b7
    try dsimp only [setd, setn, ev, nth, over, cl, eI, eP, eT, List.map, List.append, List.drop, List.take]
    refine K.seq_st (K.store_all sz_98 rfl rfl rfl rfl (K.rp0)) rfl ?_
    try dsimp only [setd, setn, ev, nth, over, cl, eI, eP, eT, List.map, List.append, List.drop, List.take]
    refine K.seq_pure (K.assign) rfl ?_
    dsimp only [setd, setn, ev, nth]
    refine K.seq_nil ?_
    refine R.out ?_
    refine R.norm_then ?_
    refine R.seq ?_
    refine R.region_lit rfl ?_
    refine K.seq_pure (K.move) rfl ?_
    dsimp only [setd, setn, ev, nth]
    refine K.seq_pure (K.move) rfl ?_
    dsimp only [setd, setn, ev, nth]
    refine K.split 27 rfl (fun hg27 => ?_) (fun hg27 => ?_)
    · try replace hg27 := of_decide_eq_true hg27
      refine K.seq_sil (K.loadA_own ag_94 rfl (K.m2) rfl) rfl ?_
      try dsimp only [setd, setn, ev, nth, over, cl, eI, eP, eT, List.map, List.append, List.drop, List.take]
      refine K.seq_sil (K.loadA_own ag_98 rfl ((K.m0)) rfl) rfl ?_
      try dsimp only [setd, setn, ev, nth, over, cl, eI, eP, eT, List.map, List.append, List.drop, List.take]
      refine K.seq_loud (K.call_f cal_58 (fun F w hF hw => c64 (cs := (cuts kind base x.1 x.2 hs)) (hH.pass hw) (hR.pass hw) (by omega) g.bdh (g.bdc hp) (fun i hi => g.road4 hi) (by omega))) rfl ?_
      rintro ⟨A1, c1⟩ hA1
      try dsimp only [setd, setn, ev, nth, over, cl, eI, eP, eT, List.map, List.append, List.drop, List.take]
      refine K.seq_pure (K.eql_slnil sl_31 rfl) rfl ?_
      dsimp only [setd, setn, ev, nth]
      refine K.seq_pure (K.pick_t rfl) rfl ?_
      dsimp only [setd, setn, ev, nth]
      refine K.seq_nil ?_
      refine R.out ?_
      refine R.norm_then ?_
      refine R.cond rfl (fun ht32 => ?_) (fun ht32 => ?_)
      · try replace ht32 := of_decide_eq_true ht32
        refine R.seq ?_
        refine R.region_lit rfl ?_
        refine K.seq_sil (K.loadA_own ag_36 rfl (K.m2) rfl) rfl ?_
        try dsimp only [setd, setn, ev, nth, over, cl, eI, eP, eT, List.map, List.append, List.drop, List.take]
        refine K.seq_st (K.store_all sz_36 rfl rfl rfl rfl (K.rp5)) rfl ?_
        try dsimp only [setd, setn, ev, nth, over, cl, eI, eP, eT, List.map, List.append, List.drop, List.take]
        refine K.seq_st (K.store sz_27 rfl rfl rfl rfl (K.rp4)) rfl ?_
        try dsimp only [setd, setn, ev, nth, over, cl, eI, eP, eT, List.map, List.append, List.drop, List.take]
        refine K.seq_nil ?_
        refine R.out ?_
        refine R.norm_then ?_
        refine R.ret ?_
        refine R.ret_block ?_
        exact R.rp_ret (L := [K.blk b4 94 [.int .i64 kind, .int .i64 base, .int .i64 most, .slice A hs.length c, .slice B rs.length d, .func (.func (90 + kind.toNat)) #[] #[]], K.blk b3 27 [.int .i64 0], K.blk b2 36 [.int .i64 x.1, .int .i64 x.2], K.blk b1 41 [.int .i64 kind, .int .i64 base, .int .i64 most, .slice A hs.length c, .slice B rs.length d]]) ⟨rfl, x, rfl, (frst_some hx hall (okL_t (by unfold fitP; exact hg27) (by rw [K.nnone hA1] at ht32; simpa using ht32))).symm, part_ne hp⟩ (by repeat (first | exact List.Sublist.refl _ | apply List.Sublist.cons))
      try replace ht32 := of_decide_eq_false ht32
      refine R.skip ?_
      refine R.norm_block ?_
      exact R.rp_normal (L := [K.blk b4 94 [.int .i64 kind, .int .i64 base, .int .i64 most, .slice A hs.length c, .slice B rs.length d, .func (.func (90 + kind.toNat)) #[] #[]], K.blk b3 27 [.int .i64 0], K.blk b2 36 [.int .i64 0, .int .i64 0], K.blk b1 41 [.int .i64 kind, .int .i64 base, .int .i64 most, .slice A hs.length c, .slice B rs.length d]]) ⟨rfl, all_snoc hx hall (okL_fn (by rw [K.nnone hA1] at ht32; simpa using ht32))⟩ (by repeat (first | exact List.Sublist.refl _ | apply List.Sublist.cons))
    try replace hg27 := of_decide_eq_false hg27
    refine K.seq_skip ?_ ?_
    · rfl
    try dsimp only [setd, setn, ev, nth, over, cl, eI, eP, eT, List.map, List.append, List.drop, List.take]
    refine K.seq_skip ?_ ?_
    · rfl
    try dsimp only [setd, setn, ev, nth, over, cl, eI, eP, eT, List.map, List.append, List.drop, List.take]
    refine K.seq_skip ?_ ?_
    · rfl
    try dsimp only [setd, setn, ev, nth, over, cl, eI, eP, eT, List.map, List.append, List.drop, List.take]
    refine K.seq_skip ?_ ?_
    · rfl
    try dsimp only [setd, setn, ev, nth, over, cl, eI, eP, eT, List.map, List.append, List.drop, List.take]
    refine K.seq_pure (K.pick_f rfl) rfl ?_
    dsimp only [setd, setn, ev, nth]
    refine K.seq_nil ?_
    refine R.out ?_
    refine R.norm_then ?_
    refine R.cond_false rfl ?_
    refine R.skip ?_
    refine R.norm_block ?_
    exact R.rp_normal (L := [K.blk b4 94 [.int .i64 kind, .int .i64 base, .int .i64 most, .slice A hs.length c, .slice B rs.length d, .func (.func (90 + kind.toNat)) #[] #[]], K.blk b3 27 [.int .i64 0], K.blk b2 36 [.int .i64 0, .int .i64 0], K.blk b1 41 [.int .i64 kind, .int .i64 base, .int .i64 most, .slice A hs.length c, .slice B rs.length d]]) ⟨rfl, all_snoc hx hall (okL_ff (by unfold fitP; exact hg27))⟩ (by repeat (first | exact List.Sublist.refl _ | apply List.Sublist.cons))
  · intro bD L hJ
    obtain ⟨rfl, hall⟩ := hJ
    rw [List.take_length] at hall
    try dsimp only [List.cons_append, List.nil_append]
    try dsimp only [setd, setn, ev, nth, over, cl, eI, eP, eT, setM, setF, List.map, List.append, List.drop, List.take]
    refine R.norm_block ?_
    refine R.norm_then ?_
    refine R.seq ?_
    refine R.region_lit rfl ?_
    refine K.seq_pure (K.build (bl27z)) rfl ?_
    try dsimp only [setd, setn, ev, nth, over, cl, eI, eP, eT, List.map, List.append, List.drop, List.take]
    refine K.seq_st (K.store_all sz_36 rfl rfl rfl rfl (K.rp2)) rfl ?_
    try dsimp only [setd, setn, ev, nth, over, cl, eI, eP, eT, List.map, List.append, List.drop, List.take]
    refine K.seq_st (K.store sz_27 rfl rfl rfl rfl (K.rp1)) rfl ?_
    try dsimp only [setd, setn, ev, nth, over, cl, eI, eP, eT, List.map, List.append, List.drop, List.take]
    refine K.seq_nil ?_
    refine R.out ?_
    refine R.norm_then ?_
    refine R.ret ?_
    refine R.end_ret1 rfl (by dsimp only [List.dropLast]; exact (fun w hw => K.res_cc rfl rfl rfl (K.run_cellA ag_36 rfl (K.m2) rfl w hw) (K.run_cell1 one_27 rfl (K.m1) w hw))) ?_
    dsimp only [List.dropLast]
    exact K.gives (by rw [if_pos (frst_none hall)])
  · intro bD cx L hJ
    obtain ⟨rfl, best, rfl, hbest, hne⟩ := hJ
    try dsimp only [List.cons_append, List.nil_append]
    try dsimp only [setd, setn, ev, nth, over, cl, eI, eP, eT, setM, setF, List.map, List.append, List.drop, List.take]
    refine R.ret ?_
    refine R.ret_block ?_
    refine R.ret_then ?_
    refine R.end_ret1 rfl (by dsimp only [List.dropLast]; exact (fun w hw => K.res_cc rfl rfl rfl (K.run_cellA ag_36 rfl (K.m2) rfl w hw) (K.run_cell1 one_27 rfl (K.m1) w hw))) ?_
    dsimp only [List.dropLast]
    exact K.gives (by rw [if_neg (by rw [← hbest]; exact hne), ← hbest])

end Go.Proofs.Ytfbglomliankmaa.Sc
end
section
set_option linter.unusedSimpArgs false
set_option linter.unusedVariables false
namespace Go.Proofs.Ytfbglomliankmaa.Sc
open Go.RowKit Go
open Go.K (setd setn ev nth over cl eI eP eT setM setF)
attribute [local irreducible] K.blk K.row

theorem c27 {kind base most : Int} {A B : Option Addr} {c d : Nat} {hs : List Int} {rs : List (Int × Int)} {limit : Int} {w : World} (hH : K.Rd w A 1 K.eI hs) (hR : K.Rd w B 2 K.eP rs) (hn : hs.length ≤ 4611686018427387904) (hm : rs.length ≤ 4611686018427387904) : Calls Try.prog 32 [.agg #[.int .i64 kind, .int .i64 base, .int .i64 most, .slice A hs.length c, .slice B rs.length d], .int .i64 limit].toArray w (K.Gives (sev (grtR kind base most hs rs limit)) w) := by
  by_cases he : (chk kind base most hs rs).2.2 = 0
  · have h := g27 (A := A) (B := B) (c := c) (d := d) (limit := limit) (w := w) hH hR (chk_good he)
    refine h.mono fun e w' hg => ?_
    unfold grtR
    rw [if_neg (fun h => h he)]
    by_cases hl : 0 ≤ limit ∧ limit ≤ 1000000
    · rw [if_pos hl] at hg
      rw [if_neg (fun h => h hl)]
      by_cases h0 : lastG (okG kind base most hs rs limit) SB = (0, 0)
      · rw [if_pos h0] at hg; rw [if_pos h0]; exact hg
      · rw [if_neg h0] at hg; rw [if_neg h0]; exact hg
    · rw [if_neg hl] at hg
      rw [if_pos hl]
      exact hg
  · have h := e27 (A := A) (B := B) (c := c) (d := d) (limit := limit) (w := w) hH hR hn hm he
    have e : grtR kind base most hs rs limit = ((0, 0), (chk kind base most hs rs).2.2) := by unfold grtR; rw [if_pos he]
    rw [e]
    exact h




theorem c29 {kind base most : Int} {A B : Option Addr} {c d : Nat} {hs : List Int} {rs : List (Int × Int)} {w : World} (hH : K.Rd w A 1 K.eI hs) (hR : K.Rd w B 2 K.eP rs) (hn : hs.length ≤ 4611686018427387904) (hm : rs.length ≤ 4611686018427387904) : Calls Try.prog 33 [.agg #[.int .i64 kind, .int .i64 base, .int .i64 most, .slice A hs.length c, .slice B rs.length d]].toArray w (K.Gives (sev (lstR kind base most hs rs)) w) := by
  by_cases he : (chk kind base most hs rs).2.2 = 0
  · have h := g29 (A := A) (B := B) (c := c) (d := d) (w := w) hH hR (chk_good he)
    refine h.mono fun e w' hg => ?_
    unfold lstR
    rw [if_neg (fun h => h he)]
    by_cases h0 : frstG (okL kind base most hs rs) SB = (0, 0)
    · rw [if_pos h0] at hg; rw [if_pos h0]; exact hg
    · rw [if_neg h0] at hg; rw [if_neg h0]; exact hg
  · have h := e29 (A := A) (B := B) (c := c) (d := d) (w := w) hH hR hn hm he
    have e : lstR kind base most hs rs = ((0, 0), (chk kind base most hs rs).2.2) := by unfold lstR; rw [if_pos he]
    rw [e]
    exact h




end Go.Proofs.Ytfbglomliankmaa.Sc
end
section
set_option linter.unusedSimpArgs false
set_option linter.unusedVariables false
namespace Go.Proofs.Ytfbglomliankmaa.Sc
open Go.RowKit Go
open Go.K (setd setn ev nth over cl eI eP eT setM setF)
attribute [local irreducible] K.blk K.row
theorem bsC : K.Bs Try.prog 31 4 [(0, .int .i64 100), (1, .int .i64 110), (2, .int .i64 125), (3, .int .i64 160)] 3 [.int .i64 100, .int .i64 110, .int .i64 125, .int .i64 160] := fun w => by kernel_rfl
theorem bl79 (a b : Int) : K.Bl Try.prog 124 [(0, .int .i64 a), (1, .int .i64 b)] (.agg #[.int .i64 a, .int .i64 b]) := fun w => by kernel_rfl
theorem bsR (a b a2 b2 a3 b3 : Int) : K.Bs Try.prog 39 3 [(0, .agg #[.int .i64 a, .int .i64 b]), (1, .agg #[.int .i64 a2, .int .i64 b2]), (2, .agg #[.int .i64 a3, .int .i64 b3])] 124 [.int .i64 a, .int .i64 b, .int .i64 a2, .int .i64 b2, .int .i64 a3, .int .i64 b3] := fun w => by kernel_rfl
theorem bl25 (a b c : Int) (p q : Nat) (n m : Nat) : K.Bl Try.prog 41 [(0, .int .i64 a), (1, .int .i64 b), (2, .int .i64 c), (3, .slice (some ⟨p, 0, none⟩) n n), (4, .slice (some ⟨q, 0, none⟩) m m)] (.agg #[.int .i64 a, .int .i64 b, .int .i64 c, .slice (some ⟨p, 0, none⟩) n n, .slice (some ⟨q, 0, none⟩) m m]) := fun w => by kernel_rfl

set_option maxRecDepth 100000 in
theorem c36 {kind : Int} (w : World) :
    Calls Try.prog 28 [.int .i64 kind].toArray w (K.Ret (fun _ : Nat × Nat => True) (fun r => .agg #[.int .i64 kind, .int .i64 100, .int .i64 50, .slice (some ⟨r.1, 0, none⟩) 4 4, .slice (some ⟨r.2, 0, none⟩) 3 3]) (fun r => [K.blk r.2 124 [.int .i64 0, .int .i64 1, .int .i64 1, .int .i64 2, .int .i64 3, .int .i64 2], K.blk r.1 3 [.int .i64 100, .int .i64 110, .int .i64 125, .int .i64 160]]) w) := by
  refine K.enter (args := [.int .i64 kind]) Try.func28 rfl (n := 9) rfl ?_
  simp only [List.replicate, List.cons_append, List.nil_append]
  refine K.seq ?_
  refine K.region_lit ?_
  refine K.seq_new (K.alloc zr_41) rfl ?_
  intro b2
  try dsimp only [setd, setn, ev, nth, over, cl, eI, eP, eT, List.map, List.append, List.drop, List.take]
  refine K.seq_nil ?_
  refine K.norm_then ?_
  refine K.seq ?_
  refine K.region_lit ?_
  refine K.seq_pure (K.move) rfl ?_
  dsimp only [setd, setn, ev, nth]
  refine K.seq_new (K.buildSlice (bsC)) rfl ?_
  intro b4
  try dsimp only [setd, setn, ev, nth, over, cl, eI, eP, eT, List.map, List.append, List.drop, List.take]
  refine K.seq_pure (K.build (bl79 _ _)) rfl ?_
  try dsimp only [setd, setn, ev, nth, over, cl, eI, eP, eT, List.map, List.append, List.drop, List.take]
  refine K.seq_pure (K.build (bl79 _ _)) rfl ?_
  try dsimp only [setd, setn, ev, nth, over, cl, eI, eP, eT, List.map, List.append, List.drop, List.take]
  refine K.seq_pure (K.build (bl79 _ _)) rfl ?_
  try dsimp only [setd, setn, ev, nth, over, cl, eI, eP, eT, List.map, List.append, List.drop, List.take]
  refine K.seq_new (K.buildSlice (bsR _ _ _ _ _ _)) rfl ?_
  intro b8
  try dsimp only [setd, setn, ev, nth, over, cl, eI, eP, eT, List.map, List.append, List.drop, List.take]
  refine K.seq_pure (K.build (bl25 _ _ _ _ _ _ _)) rfl ?_
  try dsimp only [setd, setn, ev, nth, over, cl, eI, eP, eT, List.map, List.append, List.drop, List.take]
  refine K.seq_st (K.store_all sz_41 rfl rfl rfl rfl (K.rp2)) rfl ?_
  try dsimp only [setd, setn, ev, nth, over, cl, eI, eP, eT, List.map, List.append, List.drop, List.take]
  refine K.seq_nil ?_
  refine K.norm_then ?_
  refine K.ret ?_
  refine K.end_ret (fun w hw => K.res_c rfl rfl (K.run_cellA ag_41 rfl (K.m2) rfl w hw)) ?_
  exact K.rets (b4, b8) trivial rfl (List.Sublist.cons_cons _ (List.Sublist.cons_cons _ (List.nil_sublist _)))

end Go.Proofs.Ytfbglomliankmaa.Sc
end
section
set_option linter.unusedSimpArgs false
set_option linter.unusedVariables false
namespace Go.Proofs.Ytfbglomliankmaa.Sc
open Go.RowKit Go
open Go.K (setd setn ev nth over cl eI eP eT setM setF)
attribute [local irreducible] K.blk K.row
theorem c19t {A B : Option Addr} {c d : Nat} {xs : List Int} {w : World} (hX : K.Rd w A 1 K.eI xs) (hY : K.Rd w B 1 K.eI xs) (hn : xs.length ≤ 4611686018427387904) : Calls Try.prog 27 [.slice A xs.length c, .slice B xs.length d].toArray w (K.Gives (.bool true) w) := by
  have h := c19 (c := c) (d := d) hX hY hn hn
  rw [decide_eq_true rfl] at h
  exact h
theorem c33t {A B : Option Addr} {c d : Nat} {xs : List (Int × Int)} {w : World} (hX : K.Rd w A 2 K.eP xs) (hY : K.Rd w B 2 K.eP xs) (hn : xs.length ≤ 4611686018427387904) : Calls Try.prog 38 [.slice A xs.length c, .slice B xs.length d].toArray w (K.Gives (.bool true) w) := by
  have h := c33 (c := c) (d := d) hX hY hn hn
  rw [decide_eq_true rfl] at h
  exact h
theorem bs22_1 (a : Int) : K.Bs Try.prog 31 1 [(0, .int .i64 a)] 3 [.int .i64 a] := fun w => by kernel_rfl
theorem bs22_3 (a b c : Int) : K.Bs Try.prog 31 3 [(0, .int .i64 a), (1, .int .i64 b), (2, .int .i64 c)] 3 [.int .i64 a, .int .i64 b, .int .i64 c] := fun w => by kernel_rfl
theorem bs22_4 (a b c d : Int) : K.Bs Try.prog 31 4 [(0, .int .i64 a), (1, .int .i64 b), (2, .int .i64 c), (3, .int .i64 d)] 3 [.int .i64 a, .int .i64 b, .int .i64 c, .int .i64 d] := fun w => by kernel_rfl
theorem bs41_1 (a b c : Int) : K.Bs Try.prog 84 1 [(0, .agg #[.int .i64 a, .int .i64 b, .int .i64 c])] 82 [.int .i64 a, .int .i64 b, .int .i64 c] := fun w => by kernel_rfl
theorem bs42_3 (a b c d e f : Int) : K.Bs Try.prog 78 3 [(0, .agg #[.int .i64 a, .int .i64 b]), (1, .agg #[.int .i64 c, .int .i64 d]), (2, .agg #[.int .i64 e, .int .i64 f])] 36 [.int .i64 a, .int .i64 b, .int .i64 c, .int .i64 d, .int .i64 e, .int .i64 f] := fun w => by kernel_rfl
theorem bs42_6 (a b c d e f a2 b2 c2 d2 e2 f2 : Int) : K.Bs Try.prog 78 6 [(0, .agg #[.int .i64 a, .int .i64 b]), (1, .agg #[.int .i64 c, .int .i64 d]), (2, .agg #[.int .i64 e, .int .i64 f]), (3, .agg #[.int .i64 a2, .int .i64 b2]), (4, .agg #[.int .i64 c2, .int .i64 d2]), (5, .agg #[.int .i64 e2, .int .i64 f2])] 36 [.int .i64 a, .int .i64 b, .int .i64 c, .int .i64 d, .int .i64 e, .int .i64 f, .int .i64 a2, .int .i64 b2, .int .i64 c2, .int .i64 d2, .int .i64 e2, .int .i64 f2] := fun w => by kernel_rfl

theorem aw17 {A B : Option Addr} {c d : Nat} {w : World} (hH : K.Rd w A 1 K.eI caH) (hR : K.Rd w B 2 K.eP caR) : Calls Try.prog 10 [.agg #[.int .i64 2, .int .i64 100, .int .i64 50, .slice A caH.length c, .slice B caR.length d], .agg #[.int .i64 1, .int .i64 2]].toArray w (K.RetSE 3 1 K.eI [0, 5, 13, 30] 0 w) := by
  have h := c17 (A := A) (B := B) (c := c) (d := d) (kind := 2) (base := 100) (most := 50) (hs := caH) (rs := caR) (u := 1) (v := 2) (w := w) hH hR (by decide) (by decide)
  rw [a17.1, a17.2] at h
  exact h


theorem aw20 {A B : Option Addr} {c d : Nat} {w : World} (hH : K.Rd w A 1 K.eI caH) (hR : K.Rd w B 2 K.eP caR) : Calls Try.prog 30 [.agg #[.int .i64 2, .int .i64 100, .int .i64 50, .slice A caH.length c, .slice B caR.length d], .agg #[.int .i64 2, .int .i64 3]].toArray w (K.RetSE 3 1 K.eI [50, 0, 15] 0 w) := by
  have h := c20 (A := A) (B := B) (c := c) (d := d) (kind := 2) (base := 100) (most := 50) (hs := caH) (rs := caR) (u := 2) (v := 3) (w := w) hH hR (by decide) (by decide)
  rw [a20.1, a20.2] at h
  exact h


theorem aw22 {A B : Option Addr} {c d : Nat} {w : World} (hH : K.Rd w A 1 K.eI caH) (hR : K.Rd w B 2 K.eP caR) : Calls Try.prog 31 [.agg #[.int .i64 2, .int .i64 100, .int .i64 50, .slice A caH.length c, .slice B caR.length d], .agg #[.int .i64 1, .int .i64 30]].toArray w (K.RetSE 3 1 K.eI [0] 0 w) := by
  have h := c22 (A := A) (B := B) (c := c) (d := d) (kind := 2) (base := 100) (most := 50) (hs := caH) (rs := caR) (u := 1) (v := 30) (w := w) hH hR (by decide) (by decide)
  rw [a22.1, a22.2] at h
  exact h


theorem aw27 {A B : Option Addr} {c d : Nat} {w : World} (hH : K.Rd w A 1 K.eI caH) (hR : K.Rd w B 2 K.eP caR) : Calls Try.prog 32 [.agg #[.int .i64 2, .int .i64 100, .int .i64 50, .slice A caH.length c, .slice B caR.length d], .int .i64 47].toArray w (K.Gives (.tuple #[.agg #[.int .i64 5, .int .i64 6], .int .i64 0]) w) := by
  have h := c27 (A := A) (B := B) (c := c) (d := d) (kind := 2) (base := 100) (most := 50) (hs := caH) (rs := caR) (limit := 47) (w := w) hH hR (by decide) (by decide)
  rw [a27] at h
  exact h


theorem aw29 {A B : Option Addr} {c d : Nat} {w : World} (hH : K.Rd w A 1 K.eI caH) (hR : K.Rd w B 2 K.eP caR) : Calls Try.prog 33 [.agg #[.int .i64 2, .int .i64 100, .int .i64 50, .slice A caH.length c, .slice B caR.length d]].toArray w (K.Gives (.tuple #[.agg #[.int .i64 1, .int .i64 16], .int .i64 0]) w) := by
  have h := c29 (A := A) (B := B) (c := c) (d := d) (kind := 2) (base := 100) (most := 50) (hs := caH) (rs := caR)  (w := w) hH hR (by decide) (by decide)
  rw [a29] at h
  exact h


theorem aw31 {A B : Option Addr} {c d : Nat} {w : World} (hH : K.Rd w A 1 K.eI caH) (hR : K.Rd w B 2 K.eP caR) {M : Option Addr} {cm : Nat} (hM : K.Rd w M 3 K.eT [(3, 41, 41)]) : Calls Try.prog 34 [.agg #[.int .i64 2, .int .i64 100, .int .i64 50, .slice A caH.length c, .slice B caR.length d], .slice M 1 cm].toArray w (K.RetSE 36 2 K.eP [(19, 28), (17, 25), (15, 22), (13, 19), (11, 16), (20, 29)] 0 w) := by
  have h := c31 (A := A) (B := B) (c := c) (d := d) (kind := 2) (base := 100) (most := 50) (hs := caH) (rs := caR) (M := M) (cm := cm) (ms := [(3, 41, 41)]) (w := w) hH hR (by decide) (by decide) hM (by decide)
  rw [a31.1, a31.2] at h
  exact h


theorem aw24 {A B : Option Addr} {c d : Nat} {w : World} (hH : K.Rd w A 1 K.eI caH) (hR : K.Rd w B 2 K.eP caR) : Calls Try.prog 36 [.agg #[.int .i64 2, .int .i64 100, .int .i64 50, .slice A caH.length c, .slice B caR.length d], .agg #[.int .i64 1, .int .i64 2], .agg #[.int .i64 2, .int .i64 3]].toArray w (K.RetSE 3 1 K.eI [1, 2, 3] 0 w) := by
  have h := c24 (A := A) (B := B) (c := c) (d := d) (kind := 2) (base := 100) (most := 50) (hs := caH) (rs := caR) (u := 1) (v := 2) (u2 := 2) (v2 := 3) (w := w) hH hR (by decide) (by decide)
  rw [a24.1, a24.2] at h
  exact h


theorem aw34 {A B : Option Addr} {c d : Nat} {w : World} (hH : K.Rd w A 1 K.eI caH) (hR : K.Rd w B 2 K.eP caR) {C : Option Addr} {cc : Nat} (hS : K.Rd w C 2 K.eP [(1, 2), (3, 5), (2, 3)]) : Calls Try.prog 37 [.agg #[.int .i64 2, .int .i64 100, .int .i64 50, .slice A caH.length c, .slice B caR.length d], .slice C 3 cc].toArray w (K.RetSE 3 1 K.eI [1] 0 w) := by
  have h := c34 (A := A) (B := B) (c := c) (d := d) (kind := 2) (base := 100) (most := 50) (hs := caH) (rs := caR) (C := C) (cc := cc) (l := [(1, 2), (3, 5), (2, 3)]) (w := w) hH hR (by decide) (by decide) hS (by decide)
  rw [a34.1, a34.2] at h
  exact h


theorem aw34b {A B : Option Addr} {c d : Nat} {w : World} (hH : K.Rd w A 1 K.eI caH) (hR : K.Rd w B 2 K.eP caR) {C : Option Addr} {cc : Nat} (hS : K.Rd w C 2 K.eP [(19, 28), (17, 25)]) : Calls Try.prog 37 [.agg #[.int .i64 2, .int .i64 100, .int .i64 50, .slice A caH.length c, .slice B caR.length d], .slice C 2 cc].toArray w (K.RetSE 3 1 K.eI ([] : List Int) 5 w) := by
  have h := c34 (A := A) (B := B) (c := c) (d := d) (kind := 2) (base := 100) (most := 50) (hs := caH) (rs := caR) (C := C) (cc := cc) (l := [(19, 28), (17, 25)]) (w := w) hH hR (by decide) (by decide) hS (by decide)
  rw [a34b.1, a34b.2] at h
  exact h


set_option maxRecDepth 100000 in
theorem c26 (w : World) :
    Calls Try.prog 6 [].toArray w (K.Gives (.bool true) w) := by
  refine K.enter (args := []) Try.func6 rfl (n := 160) rfl ?_
  simp only [List.replicate, List.cons_append, List.nil_append]
  refine K.seq ?_
  refine K.region_lit ?_
  refine K.seq_pure (K.assign) rfl ?_
  dsimp only [setd, setn, ev, nth]
  refine K.seq_nil ?_
  refine K.norm_then ?_
  refine K.seq ?_
  refine K.region_lit ?_
  refine K.seq_loud (K.call_f cal_28 (fun F w hF hw => c36 (kind := 2) w)) rfl ?_
  rintro ⟨bh, br⟩ _
  try dsimp only [setd, setn, ev, nth, over, cl, eI, eP, eT, List.map, List.append, List.drop, List.take]
  refine K.seq_new (K.alloc zr_41) rfl ?_
  intro b1
  try dsimp only [setd, setn, ev, nth, over, cl, eI, eP, eT, List.map, List.append, List.drop, List.take]
  refine K.seq_st (K.store_all sz_41 rfl rfl rfl rfl (K.rp0)) rfl ?_
  try dsimp only [setd, setn, ev, nth, over, cl, eI, eP, eT, List.map, List.append, List.drop, List.take]
  refine K.seq_nil ?_
  refine K.norm_then ?_
  refine K.seq ?_
  refine K.draw_L [] Try_mixed ?_
  refine K.d_mem 0 rfl (K.loadA_own ag_41 rfl (K.m0) rfl) (fun _ h => h) (by kernel_rfl) (by kernel_rfl) rfl ?_
  try dsimp only [setd, setn, ev, nth, over, cl, eI, eP, eT, List.map, List.append, List.drop, List.take]
  refine K.d_call 1 rfl (K.call_g cal_29 (fun F w hF hw => c37 w)) (fun _ h => h) (by kernel_rfl) rfl ?_
  try dsimp only [setd, setn, ev, nth, over, cl, eI, eP, eT, List.map, List.append, List.drop, List.take]
  refine K.d_loud 2 rfl (K.call_f cal_10 (fun F w hF hw => aw17 (K.Rd.lit hw (hF _ (K.m2)) (fun _ => rfl) (by decide) rfl) (K.Rd.lit hw (hF _ (K.m1)) (fun _ => rfl) (by decide) rfl))) (fun _ h => h) (by kernel_rfl) rfl ?_
  rintro ⟨A1, c1⟩ hA1
  try dsimp only [setd, setn, ev, nth, over, cl, eI, eP, eT, List.map, List.append, List.drop, List.take]
  refine K.d_pure 3 rfl (K.move) (by kernel_rfl) rfl ?_
  dsimp only [setd, setn, ev, nth]
  refine K.d_pure 4 rfl (K.extract rfl rfl) (by kernel_rfl) rfl ?_
  dsimp only [setd, setn, ev, nth]
  refine K.d_pure 5 rfl (K.extract rfl rfl) (by kernel_rfl) rfl ?_
  dsimp only [setd, setn, ev, nth]
  refine K.d_pure 6 rfl (K.assign) (by kernel_rfl) rfl ?_
  dsimp only [setd, setn, ev, nth]
  refine K.d_pure 7 rfl (K.assign) (by kernel_rfl) rfl ?_
  dsimp only [setd, setn, ev, nth]
  refine K.d_done (by kernel_rfl) ?_
  refine K.norm_then ?_
  refine K.seq ?_
  refine K.draw_L [] Try_mixed ?_
  refine K.d_mem 0 rfl (K.loadA_own ag_41 rfl (K.m1) rfl) (fun _ h => h) (by kernel_rfl) (by kernel_rfl) rfl ?_
  try dsimp only [setd, setn, ev, nth, over, cl, eI, eP, eT, List.map, List.append, List.drop, List.take]
  refine K.d_call 1 rfl (K.call_g cal_29 (fun F w hF hw => c37 w)) (fun _ h => h) (by kernel_rfl) rfl ?_
  try dsimp only [setd, setn, ev, nth, over, cl, eI, eP, eT, List.map, List.append, List.drop, List.take]
  refine K.d_loud 2 rfl (K.call_f cal_30 (fun F w hF hw => aw20 (K.Rd.lit hw (hF _ (K.m3)) (fun _ => rfl) (by decide) rfl) (K.Rd.lit hw (hF _ (K.m2)) (fun _ => rfl) (by decide) rfl))) (fun _ h => h) (by kernel_rfl) rfl ?_
  rintro ⟨A2, c2⟩ hA2
  try dsimp only [setd, setn, ev, nth, over, cl, eI, eP, eT, List.map, List.append, List.drop, List.take]
  refine K.d_pure 3 rfl (K.move) (by kernel_rfl) rfl ?_
  dsimp only [setd, setn, ev, nth]
  refine K.d_pure 4 rfl (K.extract rfl rfl) (by kernel_rfl) rfl ?_
  dsimp only [setd, setn, ev, nth]
  refine K.d_pure 5 rfl (K.extract rfl rfl) (by kernel_rfl) rfl ?_
  dsimp only [setd, setn, ev, nth]
  refine K.d_pure 6 rfl (K.assign) (by kernel_rfl) rfl ?_
  dsimp only [setd, setn, ev, nth]
  refine K.d_pure 7 rfl (K.assign) (by kernel_rfl) rfl ?_
  dsimp only [setd, setn, ev, nth]
  refine K.d_done (by kernel_rfl) ?_
  refine K.norm_then ?_
  refine K.seq ?_
  refine K.draw_L [] Try_mixed ?_
  refine K.d_mem 0 rfl (K.loadA_own ag_41 rfl (K.m2) rfl) (fun _ h => h) (by kernel_rfl) (by kernel_rfl) rfl ?_
  try dsimp only [setd, setn, ev, nth, over, cl, eI, eP, eT, List.map, List.append, List.drop, List.take]
  refine K.d_call 1 rfl (K.call_g cal_29 (fun F w hF hw => c37 w)) (fun _ h => h) (by kernel_rfl) rfl ?_
  try dsimp only [setd, setn, ev, nth, over, cl, eI, eP, eT, List.map, List.append, List.drop, List.take]
  refine K.d_loud 2 rfl (K.call_f cal_31 (fun F w hF hw => aw22 (K.Rd.lit hw (hF _ (K.m4)) (fun _ => rfl) (by decide) rfl) (K.Rd.lit hw (hF _ (K.m3)) (fun _ => rfl) (by decide) rfl))) (fun _ h => h) (by kernel_rfl) rfl ?_
  rintro ⟨A3, c3⟩ hA3
  try dsimp only [setd, setn, ev, nth, over, cl, eI, eP, eT, List.map, List.append, List.drop, List.take]
  refine K.d_pure 3 rfl (K.move) (by kernel_rfl) rfl ?_
  dsimp only [setd, setn, ev, nth]
  refine K.d_pure 4 rfl (K.extract rfl rfl) (by kernel_rfl) rfl ?_
  dsimp only [setd, setn, ev, nth]
  refine K.d_pure 5 rfl (K.extract rfl rfl) (by kernel_rfl) rfl ?_
  dsimp only [setd, setn, ev, nth]
  refine K.d_pure 6 rfl (K.assign) (by kernel_rfl) rfl ?_
  dsimp only [setd, setn, ev, nth]
  refine K.d_pure 7 rfl (K.assign) (by kernel_rfl) rfl ?_
  dsimp only [setd, setn, ev, nth]
  refine K.d_done (by kernel_rfl) ?_
  refine K.norm_then ?_
  refine K.seq ?_
  refine K.region_lit ?_
  refine K.seq_sil (K.loadA_own ag_41 rfl (K.m3) rfl) rfl ?_
  try dsimp only [setd, setn, ev, nth, over, cl, eI, eP, eT, List.map, List.append, List.drop, List.take]
  refine K.seq_call (K.call_g cal_32 (fun F w hF hw => aw27 (K.Rd.lit hw (hF _ (K.m5)) (fun _ => rfl) (by decide) rfl) (K.Rd.lit hw (hF _ (K.m4)) (fun _ => rfl) (by decide) rfl))) rfl ?_
  try dsimp only [setd, setn, ev, nth, over, cl, eI, eP, eT, List.map, List.append, List.drop, List.take]
  refine K.seq_pure (K.move) rfl ?_
  dsimp only [setd, setn, ev, nth]
  refine K.seq_pure (K.extract rfl rfl) rfl ?_
  dsimp only [setd, setn, ev, nth]
  refine K.seq_pure (K.extract rfl rfl) rfl ?_
  dsimp only [setd, setn, ev, nth]
  refine K.seq_new (K.alloc zr_36) rfl ?_
  intro b8
  try dsimp only [setd, setn, ev, nth, over, cl, eI, eP, eT, List.map, List.append, List.drop, List.take]
  refine K.seq_st (K.store_all sz_36 rfl rfl rfl rfl (K.rp0)) rfl ?_
  try dsimp only [setd, setn, ev, nth, over, cl, eI, eP, eT, List.map, List.append, List.drop, List.take]
  refine K.seq_pure (K.assign) rfl ?_
  dsimp only [setd, setn, ev, nth]
  refine K.seq_nil ?_
  refine K.norm_then ?_
  refine K.seq ?_
  refine K.region_lit ?_
  refine K.seq_sil (K.loadA_own ag_41 rfl (K.m4) rfl) rfl ?_
  try dsimp only [setd, setn, ev, nth, over, cl, eI, eP, eT, List.map, List.append, List.drop, List.take]
  refine K.seq_call (K.call_g cal_33 (fun F w hF hw => aw29 (K.Rd.lit hw (hF _ (K.m6)) (fun _ => rfl) (by decide) rfl) (K.Rd.lit hw (hF _ (K.m5)) (fun _ => rfl) (by decide) rfl))) rfl ?_
  try dsimp only [setd, setn, ev, nth, over, cl, eI, eP, eT, List.map, List.append, List.drop, List.take]
  refine K.seq_pure (K.move) rfl ?_
  dsimp only [setd, setn, ev, nth]
  refine K.seq_pure (K.extract rfl rfl) rfl ?_
  dsimp only [setd, setn, ev, nth]
  refine K.seq_pure (K.extract rfl rfl) rfl ?_
  dsimp only [setd, setn, ev, nth]
  refine K.seq_new (K.alloc zr_36) rfl ?_
  intro b10
  try dsimp only [setd, setn, ev, nth, over, cl, eI, eP, eT, List.map, List.append, List.drop, List.take]
  refine K.seq_st (K.store_all sz_36 rfl rfl rfl rfl (K.rp0)) rfl ?_
  try dsimp only [setd, setn, ev, nth, over, cl, eI, eP, eT, List.map, List.append, List.drop, List.take]
  refine K.seq_pure (K.assign) rfl ?_
  dsimp only [setd, setn, ev, nth]
  refine K.seq_nil ?_
  refine K.norm_then ?_
  refine K.seq ?_
  refine K.draw_L [] Try_mixed ?_
  refine K.d_mem 0 rfl (K.loadA_own ag_41 rfl (K.m5) rfl) (fun _ h => h) (by kernel_rfl) (by kernel_rfl) rfl ?_
  try dsimp only [setd, setn, ev, nth, over, cl, eI, eP, eT, List.map, List.append, List.drop, List.take]
  refine K.d_call 1 rfl (K.call_g cal_35 (fun F w hF hw => c38 w)) (fun _ h => h) (by kernel_rfl) rfl ?_
  try dsimp only [setd, setn, ev, nth, over, cl, eI, eP, eT, List.map, List.append, List.drop, List.take]
  refine K.d_new 2 rfl (K.buildSlice (bs41_1 _ _ _)) (fun _ h => h) (by kernel_rfl) rfl ?_
  intro b52
  try dsimp only [setd, setn, ev, nth, over, cl, eI, eP, eT, List.map, List.append, List.drop, List.take]
  refine K.d_loud 3 rfl (K.call_f cal_34 (fun F w hF hw => aw31 (K.Rd.lit hw (hF _ (K.m8)) (fun _ => rfl) (by decide) rfl) (K.Rd.lit hw (hF _ (K.m7)) (fun _ => rfl) (by decide) rfl) (K.Rd.lit hw (hF _ (K.m0)) (fun _ => rfl) (by decide) rfl))) (fun _ h => K.tl h) (by kernel_rfl) rfl ?_
  rintro ⟨A4, c4⟩ hA4
  try dsimp only [setd, setn, ev, nth, over, cl, eI, eP, eT, List.map, List.append, List.drop, List.take]
  refine K.d_pure 4 rfl (K.move) (by kernel_rfl) rfl ?_
  dsimp only [setd, setn, ev, nth]
  refine K.d_pure 5 rfl (K.extract rfl rfl) (by kernel_rfl) rfl ?_
  dsimp only [setd, setn, ev, nth]
  refine K.d_pure 6 rfl (K.extract rfl rfl) (by kernel_rfl) rfl ?_
  dsimp only [setd, setn, ev, nth]
  refine K.d_pure 7 rfl (K.assign) (by kernel_rfl) rfl ?_
  dsimp only [setd, setn, ev, nth]
  refine K.d_pure 8 rfl (K.assign) (by kernel_rfl) rfl ?_
  dsimp only [setd, setn, ev, nth]
  refine K.d_done (by kernel_rfl) ?_
  refine K.norm_then ?_
  refine K.seq ?_
  refine K.draw_L [] Try_mixed ?_
  refine K.d_mem 0 rfl (K.loadA_own ag_41 rfl (K.m7) rfl) (fun _ h => h) (by kernel_rfl) (by kernel_rfl) rfl ?_
  try dsimp only [setd, setn, ev, nth, over, cl, eI, eP, eT, List.map, List.append, List.drop, List.take]
  refine K.d_call 1 rfl (K.call_g cal_29 (fun F w hF hw => c37 w)) (fun _ h => h) (by kernel_rfl) rfl ?_
  try dsimp only [setd, setn, ev, nth, over, cl, eI, eP, eT, List.map, List.append, List.drop, List.take]
  refine K.d_call 2 rfl (K.call_g cal_29 (fun F w hF hw => c37 w)) (fun _ h => h) (by kernel_rfl) rfl ?_
  try dsimp only [setd, setn, ev, nth, over, cl, eI, eP, eT, List.map, List.append, List.drop, List.take]
  refine K.d_loud 3 rfl (K.call_f cal_36 (fun F w hF hw => aw24 (K.Rd.lit hw (hF _ (K.m9)) (fun _ => rfl) (by decide) rfl) (K.Rd.lit hw (hF _ (K.m8)) (fun _ => rfl) (by decide) rfl))) (fun _ h => h) (by kernel_rfl) rfl ?_
  rintro ⟨A5, c5⟩ hA5
  try dsimp only [setd, setn, ev, nth, over, cl, eI, eP, eT, List.map, List.append, List.drop, List.take]
  refine K.d_pure 4 rfl (K.move) (by kernel_rfl) rfl ?_
  dsimp only [setd, setn, ev, nth]
  refine K.d_pure 5 rfl (K.extract rfl rfl) (by kernel_rfl) rfl ?_
  dsimp only [setd, setn, ev, nth]
  refine K.d_pure 6 rfl (K.extract rfl rfl) (by kernel_rfl) rfl ?_
  dsimp only [setd, setn, ev, nth]
  refine K.d_pure 7 rfl (K.assign) (by kernel_rfl) rfl ?_
  dsimp only [setd, setn, ev, nth]
  refine K.d_pure 8 rfl (K.assign) (by kernel_rfl) rfl ?_
  dsimp only [setd, setn, ev, nth]
  refine K.d_done (by kernel_rfl) ?_
  refine K.norm_then ?_
  refine K.seq ?_
  refine K.draw_L [] Try_mixed ?_
  refine K.d_mem 0 rfl (K.loadA_own ag_41 rfl (K.m8) rfl) (fun _ h => h) (by kernel_rfl) (by kernel_rfl) rfl ?_
  try dsimp only [setd, setn, ev, nth, over, cl, eI, eP, eT, List.map, List.append, List.drop, List.take]
  refine K.d_call 1 rfl (K.call_g cal_29 (fun F w hF hw => c37 w)) (fun _ h => h) (by kernel_rfl) rfl ?_
  try dsimp only [setd, setn, ev, nth, over, cl, eI, eP, eT, List.map, List.append, List.drop, List.take]
  refine K.d_call 2 rfl (K.call_g cal_29 (fun F w hF hw => c37 w)) (fun _ h => h) (by kernel_rfl) rfl ?_
  try dsimp only [setd, setn, ev, nth, over, cl, eI, eP, eT, List.map, List.append, List.drop, List.take]
  refine K.d_call 3 rfl (K.call_g cal_29 (fun F w hF hw => c37 w)) (fun _ h => h) (by kernel_rfl) rfl ?_
  try dsimp only [setd, setn, ev, nth, over, cl, eI, eP, eT, List.map, List.append, List.drop, List.take]
  refine K.d_new 4 rfl (K.buildSlice (bs42_3 _ _ _ _ _ _)) (fun _ h => h) (by kernel_rfl) rfl ?_
  intro b68
  try dsimp only [setd, setn, ev, nth, over, cl, eI, eP, eT, List.map, List.append, List.drop, List.take]
  refine K.d_loud 5 rfl (K.call_f cal_37 (fun F w hF hw => aw34 (K.Rd.lit hw (hF _ (K.m11)) (fun _ => rfl) (by decide) rfl) (K.Rd.lit hw (hF _ (K.m10)) (fun _ => rfl) (by decide) rfl) (K.Rd.lit hw (hF _ (K.m0)) (fun _ => rfl) (by decide) rfl))) (fun _ h => K.tl h) (by kernel_rfl) rfl ?_
  rintro ⟨A6, c6⟩ hA6
  try dsimp only [setd, setn, ev, nth, over, cl, eI, eP, eT, List.map, List.append, List.drop, List.take]
  refine K.d_pure 6 rfl (K.move) (by kernel_rfl) rfl ?_
  dsimp only [setd, setn, ev, nth]
  refine K.d_pure 7 rfl (K.extract rfl rfl) (by kernel_rfl) rfl ?_
  dsimp only [setd, setn, ev, nth]
  refine K.d_pure 8 rfl (K.extract rfl rfl) (by kernel_rfl) rfl ?_
  dsimp only [setd, setn, ev, nth]
  refine K.d_pure 9 rfl (K.assign) (by kernel_rfl) rfl ?_
  dsimp only [setd, setn, ev, nth]
  refine K.d_pure 10 rfl (K.assign) (by kernel_rfl) rfl ?_
  dsimp only [setd, setn, ev, nth]
  refine K.d_done (by kernel_rfl) ?_
  refine K.norm_then ?_
  refine K.seq ?_
  refine K.draw_L [] Try_mixed ?_
  refine K.d_mem 0 rfl (K.loadA_own ag_41 rfl (K.m10) rfl) (fun _ h => h) (by kernel_rfl) (by kernel_rfl) rfl ?_
  try dsimp only [setd, setn, ev, nth, over, cl, eI, eP, eT, List.map, List.append, List.drop, List.take]
  refine K.d_call 1 rfl (K.call_g cal_29 (fun F w hF hw => c37 w)) (fun _ h => h) (by kernel_rfl) rfl ?_
  try dsimp only [setd, setn, ev, nth, over, cl, eI, eP, eT, List.map, List.append, List.drop, List.take]
  refine K.d_call 2 rfl (K.call_g cal_29 (fun F w hF hw => c37 w)) (fun _ h => h) (by kernel_rfl) rfl ?_
  try dsimp only [setd, setn, ev, nth, over, cl, eI, eP, eT, List.map, List.append, List.drop, List.take]
  refine K.d_new 3 rfl (K.buildSlice (bs27_2 _ _ _ _)) (fun _ h => h) (by kernel_rfl) rfl ?_
  intro b76
  try dsimp only [setd, setn, ev, nth, over, cl, eI, eP, eT, List.map, List.append, List.drop, List.take]
  refine K.d_loud 4 rfl (K.call_f cal_37 (fun F w hF hw => aw34b (K.Rd.lit hw (hF _ (K.m13)) (fun _ => rfl) (by decide) rfl) (K.Rd.lit hw (hF _ (K.m12)) (fun _ => rfl) (by decide) rfl) (K.Rd.lit hw (hF _ (K.m0)) (fun _ => rfl) (by decide) rfl))) (fun _ h => K.tl h) (by kernel_rfl) rfl ?_
  rintro ⟨A7, c7⟩ hA7
  try dsimp only [setd, setn, ev, nth, over, cl, eI, eP, eT, List.map, List.append, List.drop, List.take]
  refine K.d_pure 5 rfl (K.move) (by kernel_rfl) rfl ?_
  dsimp only [setd, setn, ev, nth]
  refine K.d_pure 6 rfl (K.extract rfl rfl) (by kernel_rfl) rfl ?_
  dsimp only [setd, setn, ev, nth]
  refine K.d_pure 7 rfl (K.extract rfl rfl) (by kernel_rfl) rfl ?_
  dsimp only [setd, setn, ev, nth]
  refine K.d_pure 8 rfl (K.assign) (by kernel_rfl) rfl ?_
  dsimp only [setd, setn, ev, nth]
  refine K.d_pure 9 rfl (K.assign) (by kernel_rfl) rfl ?_
  dsimp only [setd, setn, ev, nth]
  refine K.d_done (by kernel_rfl) ?_
  refine K.norm_then ?_
  refine K.seq ?_
  refine K.draw_L [] Try_mixed ?_
  refine K.d_pure 0 rfl (K.move) (by kernel_rfl) rfl ?_
  dsimp only [setd, setn, ev, nth]
  refine K.d_pure 1 rfl (K.Pure.eq (K.eql rfl rfl) (show _ = Value.bool true from rfl)) (by kernel_rfl) rfl ?_
  dsimp only [setd, setn, ev, nth]
  refine K.d_pure 2 rfl (K.move) (by kernel_rfl) rfl ?_
  dsimp only [setd, setn, ev, nth]
  refine K.d_pure 3 rfl (K.move) (by kernel_rfl) rfl ?_
  dsimp only [setd, setn, ev, nth]
  refine K.d_pure 4 rfl (K.Pure.eq (K.eql rfl rfl) (show _ = Value.bool true from rfl)) (by kernel_rfl) rfl ?_
  dsimp only [setd, setn, ev, nth]
  refine K.d_pure 5 rfl (K.pick_t rfl) (by kernel_rfl) rfl ?_
  dsimp only [setd, setn, ev, nth]
  refine K.d_pure 6 rfl (K.move) (by kernel_rfl) rfl ?_
  dsimp only [setd, setn, ev, nth]
  refine K.d_pure 7 rfl (K.move) (by kernel_rfl) rfl ?_
  dsimp only [setd, setn, ev, nth]
  refine K.d_pure 8 rfl (K.Pure.eq (K.eql rfl rfl) (show _ = Value.bool true from rfl)) (by kernel_rfl) rfl ?_
  dsimp only [setd, setn, ev, nth]
  refine K.d_pure 9 rfl (K.pick_t rfl) (by kernel_rfl) rfl ?_
  dsimp only [setd, setn, ev, nth]
  refine K.d_pure 10 rfl (K.move) (by kernel_rfl) rfl ?_
  dsimp only [setd, setn, ev, nth]
  refine K.d_pure 11 rfl (K.move) (by kernel_rfl) rfl ?_
  dsimp only [setd, setn, ev, nth]
  refine K.d_pure 12 rfl (K.Pure.eq (K.eql rfl rfl) (show _ = Value.bool true from rfl)) (by kernel_rfl) rfl ?_
  dsimp only [setd, setn, ev, nth]
  refine K.d_pure 13 rfl (K.pick_t rfl) (by kernel_rfl) rfl ?_
  dsimp only [setd, setn, ev, nth]
  refine K.d_pure 14 rfl (K.move) (by kernel_rfl) rfl ?_
  dsimp only [setd, setn, ev, nth]
  refine K.d_pure 15 rfl (K.move) (by kernel_rfl) rfl ?_
  dsimp only [setd, setn, ev, nth]
  refine K.d_pure 16 rfl (K.Pure.eq (K.eql rfl rfl) (show _ = Value.bool true from rfl)) (by kernel_rfl) rfl ?_
  dsimp only [setd, setn, ev, nth]
  refine K.d_pure 17 rfl (K.pick_t rfl) (by kernel_rfl) rfl ?_
  dsimp only [setd, setn, ev, nth]
  refine K.d_pure 18 rfl (K.move) (by kernel_rfl) rfl ?_
  dsimp only [setd, setn, ev, nth]
  refine K.d_pure 19 rfl (K.move) (by kernel_rfl) rfl ?_
  dsimp only [setd, setn, ev, nth]
  refine K.d_pure 20 rfl (K.Pure.eq (K.eql rfl rfl) (show _ = Value.bool true from rfl)) (by kernel_rfl) rfl ?_
  dsimp only [setd, setn, ev, nth]
  refine K.d_pure 21 rfl (K.pick_t rfl) (by kernel_rfl) rfl ?_
  dsimp only [setd, setn, ev, nth]
  refine K.d_pure 22 rfl (K.move) (by kernel_rfl) rfl ?_
  dsimp only [setd, setn, ev, nth]
  refine K.d_pure 23 rfl (K.move) (by kernel_rfl) rfl ?_
  dsimp only [setd, setn, ev, nth]
  refine K.d_pure 24 rfl (K.Pure.eq (K.eql rfl rfl) (show _ = Value.bool true from rfl)) (by kernel_rfl) rfl ?_
  dsimp only [setd, setn, ev, nth]
  refine K.d_pure 25 rfl (K.pick_t rfl) (by kernel_rfl) rfl ?_
  dsimp only [setd, setn, ev, nth]
  refine K.d_pure 26 rfl (K.move) (by kernel_rfl) rfl ?_
  dsimp only [setd, setn, ev, nth]
  refine K.d_pure 27 rfl (K.move) (by kernel_rfl) rfl ?_
  dsimp only [setd, setn, ev, nth]
  refine K.d_pure 28 rfl (K.Pure.eq (K.eql rfl rfl) (show _ = Value.bool true from rfl)) (by kernel_rfl) rfl ?_
  dsimp only [setd, setn, ev, nth]
  refine K.d_pure 29 rfl (K.pick_t rfl) (by kernel_rfl) rfl ?_
  dsimp only [setd, setn, ev, nth]
  refine K.d_pure 30 rfl (K.move) (by kernel_rfl) rfl ?_
  dsimp only [setd, setn, ev, nth]
  refine K.d_pure 31 rfl (K.move) (by kernel_rfl) rfl ?_
  dsimp only [setd, setn, ev, nth]
  refine K.d_pure 32 rfl (K.Pure.eq (K.eql rfl rfl) (show _ = Value.bool true from rfl)) (by kernel_rfl) rfl ?_
  dsimp only [setd, setn, ev, nth]
  refine K.d_pure 33 rfl (K.pick_t rfl) (by kernel_rfl) rfl ?_
  dsimp only [setd, setn, ev, nth]
  refine K.d_pure 34 rfl (K.move) (by kernel_rfl) rfl ?_
  dsimp only [setd, setn, ev, nth]
  refine K.d_pure 35 rfl (K.move) (by kernel_rfl) rfl ?_
  dsimp only [setd, setn, ev, nth]
  refine K.d_new 36 rfl (K.buildSlice (bs22_4 _ _ _ _)) (fun _ h => h) (by kernel_rfl) rfl ?_
  intro b116
  try dsimp only [setd, setn, ev, nth, over, cl, eI, eP, eT, List.map, List.append, List.drop, List.take]
  refine K.d_call 37 rfl (K.call_g cal_27 (fun F w hF hw => c19t (xs := [0, 5, 13, 30]) (K.Rd.own hw (hF _ (K.m12)) hA1 (fun _ => rfl) (by decide)) (K.Rd.lit hw (hF _ (K.m0)) (fun _ => rfl) (by decide) rfl) (by decide))) (fun _ h => K.tl h) (by kernel_rfl) rfl ?_
  try dsimp only [setd, setn, ev, nth, over, cl, eI, eP, eT, List.map, List.append, List.drop, List.take]
  refine K.d_pure 38 rfl (K.pick_t rfl) (by kernel_rfl) rfl ?_
  dsimp only [setd, setn, ev, nth]
  refine K.d_pure 39 rfl (K.move) (by kernel_rfl) rfl ?_
  dsimp only [setd, setn, ev, nth]
  refine K.d_pure 40 rfl (K.move) (by kernel_rfl) rfl ?_
  dsimp only [setd, setn, ev, nth]
  refine K.d_new 41 rfl (K.buildSlice (bs22_3 _ _ _)) (fun _ h => K.tl h) (by kernel_rfl) rfl ?_
  intro b121
  try dsimp only [setd, setn, ev, nth, over, cl, eI, eP, eT, List.map, List.append, List.drop, List.take]
  refine K.d_call 42 rfl (K.call_g cal_27 (fun F w hF hw => c19t (xs := [50, 0, 15]) (K.Rd.own hw (hF _ (K.m12)) hA2 (fun _ => rfl) (by decide)) (K.Rd.lit hw (hF _ (K.m0)) (fun _ => rfl) (by decide) rfl) (by decide))) (fun _ h => K.tl (K.tl h)) (by kernel_rfl) rfl ?_
  try dsimp only [setd, setn, ev, nth, over, cl, eI, eP, eT, List.map, List.append, List.drop, List.take]
  refine K.d_pure 43 rfl (K.pick_t rfl) (by kernel_rfl) rfl ?_
  dsimp only [setd, setn, ev, nth]
  refine K.d_pure 44 rfl (K.move) (by kernel_rfl) rfl ?_
  dsimp only [setd, setn, ev, nth]
  refine K.d_pure 45 rfl (K.move) (by kernel_rfl) rfl ?_
  dsimp only [setd, setn, ev, nth]
  refine K.d_new 46 rfl (K.buildSlice (bs22_1 _)) (fun _ h => K.tl (K.tl h)) (by kernel_rfl) rfl ?_
  intro b126
  try dsimp only [setd, setn, ev, nth, over, cl, eI, eP, eT, List.map, List.append, List.drop, List.take]
  refine K.d_call 47 rfl (K.call_g cal_27 (fun F w hF hw => c19t (xs := [0]) (K.Rd.own hw (hF _ (K.m12)) hA3 (fun _ => rfl) (by decide)) (K.Rd.lit hw (hF _ (K.m0)) (fun _ => rfl) (by decide) rfl) (by decide))) (fun _ h => K.tl (K.tl (K.tl h))) (by kernel_rfl) rfl ?_
  try dsimp only [setd, setn, ev, nth, over, cl, eI, eP, eT, List.map, List.append, List.drop, List.take]
  refine K.d_pure 48 rfl (K.pick_t rfl) (by kernel_rfl) rfl ?_
  dsimp only [setd, setn, ev, nth]
  refine K.d_pure 49 rfl (K.move) (by kernel_rfl) rfl ?_
  dsimp only [setd, setn, ev, nth]
  refine K.d_mem 50 rfl (K.loadA_own ag_36 rfl (K.m8) rfl) (fun _ h => K.tl (K.tl (K.tl h))) (by kernel_rfl) (by kernel_rfl) rfl ?_
  try dsimp only [setd, setn, ev, nth, over, cl, eI, eP, eT, List.map, List.append, List.drop, List.take]
  refine K.d_call 51 rfl (K.call_g cal_29 (fun F w hF hw => c37 w)) (fun _ h => K.tl (K.tl (K.tl h))) (by kernel_rfl) rfl ?_
  try dsimp only [setd, setn, ev, nth, over, cl, eI, eP, eT, List.map, List.append, List.drop, List.take]
  refine K.d_pure 52 rfl (K.Pure.eq (K.eql_s2 s2_27 rfl rfl) (show _ = Value.bool true from congrArg Value.bool (decide_eq_true rfl))) (by kernel_rfl) rfl ?_
  dsimp only [setd, setn, ev, nth]
  refine K.d_pure 53 rfl (K.pick_t rfl) (by kernel_rfl) rfl ?_
  dsimp only [setd, setn, ev, nth]
  refine K.d_pure 54 rfl (K.move) (by kernel_rfl) rfl ?_
  dsimp only [setd, setn, ev, nth]
  refine K.d_mem 55 rfl (K.loadA_own ag_36 rfl (K.m7) rfl) (fun _ h => K.tl (K.tl (K.tl h))) (by kernel_rfl) (by kernel_rfl) rfl ?_
  try dsimp only [setd, setn, ev, nth, over, cl, eI, eP, eT, List.map, List.append, List.drop, List.take]
  refine K.d_call 56 rfl (K.call_g cal_29 (fun F w hF hw => c37 w)) (fun _ h => K.tl (K.tl (K.tl h))) (by kernel_rfl) rfl ?_
  try dsimp only [setd, setn, ev, nth, over, cl, eI, eP, eT, List.map, List.append, List.drop, List.take]
  refine K.d_pure 57 rfl (K.Pure.eq (K.eql_s2 s2_27 rfl rfl) (show _ = Value.bool true from congrArg Value.bool (decide_eq_true rfl))) (by kernel_rfl) rfl ?_
  dsimp only [setd, setn, ev, nth]
  refine K.d_pure 58 rfl (K.pick_t rfl) (by kernel_rfl) rfl ?_
  dsimp only [setd, setn, ev, nth]
  refine K.d_pure 59 rfl (K.move) (by kernel_rfl) rfl ?_
  dsimp only [setd, setn, ev, nth]
  refine K.d_pure 60 rfl (K.move) (by kernel_rfl) rfl ?_
  dsimp only [setd, setn, ev, nth]
  refine K.d_call 61 rfl (K.call_g cal_29 (fun F w hF hw => c37 w)) (fun _ h => K.tl (K.tl (K.tl h))) (by kernel_rfl) rfl ?_
  try dsimp only [setd, setn, ev, nth, over, cl, eI, eP, eT, List.map, List.append, List.drop, List.take]
  refine K.d_call 62 rfl (K.call_g cal_29 (fun F w hF hw => c37 w)) (fun _ h => K.tl (K.tl (K.tl h))) (by kernel_rfl) rfl ?_
  try dsimp only [setd, setn, ev, nth, over, cl, eI, eP, eT, List.map, List.append, List.drop, List.take]
  refine K.d_call 63 rfl (K.call_g cal_29 (fun F w hF hw => c37 w)) (fun _ h => K.tl (K.tl (K.tl h))) (by kernel_rfl) rfl ?_
  try dsimp only [setd, setn, ev, nth, over, cl, eI, eP, eT, List.map, List.append, List.drop, List.take]
  refine K.d_call 64 rfl (K.call_g cal_29 (fun F w hF hw => c37 w)) (fun _ h => K.tl (K.tl (K.tl h))) (by kernel_rfl) rfl ?_
  try dsimp only [setd, setn, ev, nth, over, cl, eI, eP, eT, List.map, List.append, List.drop, List.take]
  refine K.d_call 65 rfl (K.call_g cal_29 (fun F w hF hw => c37 w)) (fun _ h => K.tl (K.tl (K.tl h))) (by kernel_rfl) rfl ?_
  try dsimp only [setd, setn, ev, nth, over, cl, eI, eP, eT, List.map, List.append, List.drop, List.take]
  refine K.d_call 66 rfl (K.call_g cal_29 (fun F w hF hw => c37 w)) (fun _ h => K.tl (K.tl (K.tl h))) (by kernel_rfl) rfl ?_
  try dsimp only [setd, setn, ev, nth, over, cl, eI, eP, eT, List.map, List.append, List.drop, List.take]
  refine K.d_new 67 rfl (K.buildSlice (bs42_6 _ _ _ _ _ _ _ _ _ _ _ _)) (fun _ h => K.tl (K.tl (K.tl h))) (by kernel_rfl) rfl ?_
  intro b147
  try dsimp only [setd, setn, ev, nth, over, cl, eI, eP, eT, List.map, List.append, List.drop, List.take]
  refine K.d_call 68 rfl (K.call_g cal_38 (fun F w hF hw => c33t (xs := [(19, 28), (17, 25), (15, 22), (13, 19), (11, 16), (20, 29)]) (K.Rd.own hw (hF _ (K.m9)) hA4 (fun _ => rfl) (by decide)) (K.Rd.lit hw (hF _ (K.m0)) (fun _ => rfl) (by decide) rfl) (by decide))) (fun _ h => K.tl (K.tl (K.tl (K.tl h)))) (by kernel_rfl) rfl ?_
  try dsimp only [setd, setn, ev, nth, over, cl, eI, eP, eT, List.map, List.append, List.drop, List.take]
  refine K.d_pure 69 rfl (K.pick_t rfl) (by kernel_rfl) rfl ?_
  dsimp only [setd, setn, ev, nth]
  refine K.d_pure 70 rfl (K.move) (by kernel_rfl) rfl ?_
  dsimp only [setd, setn, ev, nth]
  refine K.d_pure 71 rfl (K.move) (by kernel_rfl) rfl ?_
  dsimp only [setd, setn, ev, nth]
  refine K.d_new 72 rfl (K.buildSlice (bs22_3 _ _ _)) (fun _ h => K.tl (K.tl (K.tl (K.tl h)))) (by kernel_rfl) rfl ?_
  intro b152
  try dsimp only [setd, setn, ev, nth, over, cl, eI, eP, eT, List.map, List.append, List.drop, List.take]
  refine K.d_call 73 rfl (K.call_g cal_27 (fun F w hF hw => c19t (xs := [1, 2, 3]) (K.Rd.own hw (hF _ (K.m9)) hA5 (fun _ => rfl) (by decide)) (K.Rd.lit hw (hF _ (K.m0)) (fun _ => rfl) (by decide) rfl) (by decide))) (fun _ h => K.tl (K.tl (K.tl (K.tl (K.tl h))))) (by kernel_rfl) rfl ?_
  try dsimp only [setd, setn, ev, nth, over, cl, eI, eP, eT, List.map, List.append, List.drop, List.take]
  refine K.d_pure 74 rfl (K.pick_t rfl) (by kernel_rfl) rfl ?_
  dsimp only [setd, setn, ev, nth]
  refine K.d_pure 75 rfl (K.move) (by kernel_rfl) rfl ?_
  dsimp only [setd, setn, ev, nth]
  refine K.d_pure 76 rfl (K.move) (by kernel_rfl) rfl ?_
  dsimp only [setd, setn, ev, nth]
  refine K.d_new 77 rfl (K.buildSlice (bs22_1 _)) (fun _ h => K.tl (K.tl (K.tl (K.tl (K.tl h))))) (by kernel_rfl) rfl ?_
  intro b157
  try dsimp only [setd, setn, ev, nth, over, cl, eI, eP, eT, List.map, List.append, List.drop, List.take]
  refine K.d_call 78 rfl (K.call_g cal_27 (fun F w hF hw => c19t (xs := [1]) (K.Rd.own hw (hF _ (K.m8)) hA6 (fun _ => rfl) (by decide)) (K.Rd.lit hw (hF _ (K.m0)) (fun _ => rfl) (by decide) rfl) (by decide))) (fun _ h => K.tl (K.tl (K.tl (K.tl (K.tl (K.tl h)))))) (by kernel_rfl) rfl ?_
  try dsimp only [setd, setn, ev, nth, over, cl, eI, eP, eT, List.map, List.append, List.drop, List.take]
  refine K.d_pure 79 rfl (K.pick_t rfl) (by kernel_rfl) rfl ?_
  dsimp only [setd, setn, ev, nth]
  refine K.d_pure 80 rfl (K.assign) (by kernel_rfl) rfl ?_
  dsimp only [setd, setn, ev, nth]
  refine K.d_done (by kernel_rfl) ?_
  refine K.norm_then ?_
  refine K.ret ?_
  refine K.end_ret (fun w _ => K.res_tmp rfl w) ?_
  exact K.gives rfl

end Go.Proofs.Ytfbglomliankmaa.Sc
end
section
set_option linter.unusedSimpArgs false
set_option linter.unusedVariables false
namespace Go.Proofs.Ytfbglomliankmaa.Cv
open Go.RowKit Go
open Go.K (setd setn ev nth over cl eI eP eT setM setF)
attribute [local irreducible] K.blk K.row
theorem g2 : Good 2 rowR := chk_good (by rw [rowR_2])
theorem g1 : Good 1 rowR := chk_good (by rw [rowR_1])
theorem g0 : Good 0 rowT := chk_good (by rw [rowT_0])
theorem ex_fwy : (fwy 2 rowR [8, 9, 7, 4]).1 = 3 ∧ (fwy 2 rowR [8, 9, 7, 4]).2 = 3 := by decide +kernel
theorem ex_d1 : bndE 1 rowR = 9 ∧ bndL 1 rowR = [] := by decide +kernel
theorem ex_n : needS rowR = 2 := ex_need
theorem ex_p : plS rowR [8, 9, 8, 6] rowR.length = 2 := ex_pl
theorem ex_q : psS (dpS rowR [8, 9, 8, 6] rowR.length) (mxS (dpS rowR [8, 9, 8, 6] rowR.length)).toNat = [(0, 1), (3, 3), (0, 0), (3, 3), (3, 3), (3, 3), (3, 3), (3, 3)] := by decide +kernel
theorem ex_c : (smS (begS rowR.length [(0, 1), (3, 3)] [((0 : Int), (1 : Int)), (3, 3)].length) rowR.length).take rowR.length = [1, 1, 0, 1] := by decide +kernel
theorem ex_v : (∀ a, 1 < a → a ≤ 3 → someB 1 ((rowR.take (3 + 1)).drop a) = true) := fun a h1 h2 => by
  rcases (show a = 2 ∨ a = 3 by omega) with rfl | rfl <;> decide +kernel
def Ret4 (n : Nat) (xs : List Int) (p m : Int) (w : World) : Ending → World → Prop :=
  K.Ret (fun r : Option Addr × Nat => n = 0 ∨ ∃ b, r.1 = some ⟨b, 0, none⟩) (fun r => .tuple #[.slice r.1 n r.2, .int .i64 p, .int .i64 m, .int .i64 0]) (fun r => [K.row (.slice r.1 n r.2) 3 1 n (xs.flatMap K.eI)]) w
theorem bs48 (a b c d e f g h : Int) : K.Bs Try.prog 48 4 [(0, .agg #[.int .i64 a, .int .i64 b]), (1, .agg #[.int .i64 c, .int .i64 d]), (2, .agg #[.int .i64 e, .int .i64 f]), (3, .agg #[.int .i64 g, .int .i64 h])] 52 [.int .i64 a, .int .i64 b, .int .i64 c, .int .i64 d, .int .i64 e, .int .i64 f, .int .i64 g, .int .i64 h] := fun w => by kernel_rfl
theorem bs59_2 (a b c d : Int) : K.Bs Try.prog 59 2 [(0, .agg #[.int .i64 a, .int .i64 b]), (1, .agg #[.int .i64 c, .int .i64 d])] 64 [.int .i64 a, .int .i64 b, .int .i64 c, .int .i64 d] := fun w => by kernel_rfl
theorem bs59_8 (a1 a2 b1 b2 c1 c2 d1 d2 e1 e2 f1 f2 g1 g2 h1 h2 : Int) : K.Bs Try.prog 59 8 [(0, .agg #[.int .i64 a1, .int .i64 a2]), (1, .agg #[.int .i64 b1, .int .i64 b2]), (2, .agg #[.int .i64 c1, .int .i64 c2]), (3, .agg #[.int .i64 d1, .int .i64 d2]), (4, .agg #[.int .i64 e1, .int .i64 e2]), (5, .agg #[.int .i64 f1, .int .i64 f2]), (6, .agg #[.int .i64 g1, .int .i64 g2]), (7, .agg #[.int .i64 h1, .int .i64 h2])] 64
    [.int .i64 a1, .int .i64 a2, .int .i64 b1, .int .i64 b2, .int .i64 c1, .int .i64 c2, .int .i64 d1, .int .i64 d2, .int .i64 e1, .int .i64 e2, .int .i64 f1, .int .i64 f2, .int .i64 g1, .int .i64 g2, .int .i64 h1, .int .i64 h2] := fun w => by kernel_rfl
theorem bs31_2 (a b : Int) : K.Bs Try.prog 31 2 [(0, .int .i64 a), (1, .int .i64 b)] 3 [.int .i64 a, .int .i64 b] := fun w => by kernel_rfl
theorem bs31_4 (a b c d : Int) : K.Bs Try.prog 31 4 [(0, .int .i64 a), (1, .int .i64 b), (2, .int .i64 c), (3, .int .i64 d)] 3 [.int .i64 a, .int .i64 b, .int .i64 c, .int .i64 d] := fun w => by kernel_rfl

theorem aw12 {A B : Option Addr} {c d : Nat} {w : World} (hR : K.Rd w A 3 eC rowR) (hS : K.Rd w B 1 K.eI [8, 9, 7, 4]) : Calls Try.prog 12 [.agg #[.int .i64 2, .slice A 4 c], .slice B 4 d].toArray w (K.Gives (.tuple #[.int .i64 3, .int .i64 3, .int .i64 0]) w) := by
  have h := c12 (c := c) (d := d) hR hS g2 rfl (by decide)
  rw [ex_fwy.1, ex_fwy.2] at h
  exact h


theorem aw13 {A : Option Addr} {c : Nat} {w : World} (hR : K.Rd w A 3 eC rowR) : Calls Try.prog 13 [.agg #[.int .i64 2, .slice A 4 c]].toArray w (K.RetSE 52 2 K.eP [(7, 8), (9, 10), (7, 8), (5, 6)] 0 w) := by
  have h := c13 (c := c) hR g2
  rw [ex_bnd.1, ex_bnd.2] at h
  exact h


theorem aw13b {A : Option Addr} {c : Nat} {w : World} (hR : K.Rd w A 3 eC rowR) : Calls Try.prog 13 [.agg #[.int .i64 1, .slice A 4 c]].toArray w (K.RetSE 52 2 K.eP [] 9 w) := by
  have h := c13 (c := c) hR g1
  rw [ex_d1.1, ex_d1.2] at h
  exact h


theorem aw16 {A : Option Addr} {c : Nat} {w : World} (hR : K.Rd w A 3 eC rowR) (hc : 4 ≤ c) : Calls Try.prog 16 [.agg #[.int .i64 1, .slice A 4 c]].toArray w (K.Gives (.tuple #[.int .i64 1, .int .i64 3, .int .i64 0]) w) := by
  have h := c16 (c := c) hR g1 hc (a0 := 1) (b0 := 3) (by decide) ex_prv.1 ex_prv.2.1 (by decide) ex_v (by decide +kernel)
  skip
  exact h


theorem aw17 {A : Option Addr} {c : Nat} {w : World} (hR : K.Rd w A 3 eC rowR) : Calls Try.prog 17 [.agg #[.int .i64 2, .slice A 4 c]].toArray w (K.Gives (.tuple #[.int .i64 2, .int .i64 0]) w) := by
  have h := c17 (c := c) hR g2
  rw [ex_n] at h
  exact h


theorem aw18 {A B : Option Addr} {c d : Nat} {w : World} (hR : K.Rd w A 3 eC rowR) (hS : K.Rd w B 1 K.eI [8, 9, 8, 6]) : Calls Try.prog 18 [.agg #[.int .i64 2, .slice A 4 c], .slice B 4 d].toArray w (K.Gives (.tuple #[.int .i64 2, .int .i64 0]) w) := by
  have h := c18 (c := c) (d := d) hR hS g2 rfl (by decide)
  rw [ex_p] at h
  exact h


theorem aw19 {A B : Option Addr} {c d : Nat} {w : World} (hR : K.Rd w A 3 eC rowR) (hS : K.Rd w B 1 K.eI [8, 9, 8, 6]) : Calls Try.prog 19 [.agg #[.int .i64 2, .slice A 4 c], .slice B 4 d].toArray w (K.RetSE 64 2 K.eP [(0, 1), (3, 3), (0, 0), (3, 3), (3, 3), (3, 3), (3, 3), (3, 3)] 0 w) := by
  have h := c19 (c := c) (d := d) hR hS g2 rfl (by decide) (by decide +kernel)
  rw [ex_q] at h
  exact h


theorem aw20 {A B : Option Addr} {c d : Nat} {w : World} (hR : K.Rd w A 3 eC rowR) (hX : K.Rd w B 2 K.eP [(0, 1), (3, 3)]) : Calls Try.prog 20 [.agg #[.int .i64 2, .slice A 4 c], .slice B 2 d].toArray w (K.RetSE 3 1 K.eI [1, 1, 0, 1] 0 w) := by
  have h := c20 (c := c) (d := d) hR g2 hX (by decide) (by decide)
  rw [ex_c] at h
  exact h


theorem aw22a {A : Option Addr} {c : Nat} {w : World} (hR : K.Rd w A 3 eC rowR) : Calls Try.prog 22 [.agg #[.int .i64 2, .slice A 4 c], .bool false].toArray w (Ret4 4 [8, 9, 7, 6] 1 8 w) := by
  have h := c22 (c := c) (pf := false) hR g2 ex_b1.1
  unfold RetB at h
  rw [show srfN false 2 rowR rowR.length = [8, 9, 7, 6] from ex_b1.2.1, ex_b1.2.2] at h
  exact h


theorem aw22b {A : Option Addr} {c : Nat} {w : World} (hR : K.Rd w A 3 eC rowT) : Calls Try.prog 22 [.agg #[.int .i64 0, .slice A 2 c], .bool true].toArray w (Ret4 2 [10, 10] 2 0 w) := by
  have h := c22 (c := c) (pf := true) hR g0 ex_b2.1
  unfold RetB at h
  rw [show srfN true 0 rowT rowT.length = [10, 10] from ex_b2.2.1, ex_b2.2.2] at h
  exact h


set_option maxRecDepth 100000 in
set_option maxHeartbeats 4000000 in
theorem c5 (w : World) :
    Calls Try.prog 5 [].toArray w (K.Gives (.bool true) w) := by
  refine K.enter (args := []) Try.func5 rfl (n := 206) rfl ?_
  simp only [List.replicate, List.cons_append, List.nil_append]
  refine K.seq ?_
  refine K.region_lit ?_
  refine K.seq_pure (K.assign) rfl ?_
  dsimp only [setd, setn, ev, nth]
  refine K.seq_nil ?_
  refine K.norm_then ?_
  refine K.seq ?_
  refine K.region_lit ?_
  refine K.seq_loud (K.call_f cal_15 (fun F w hF hw => c15 w)) rfl ?_
  rintro q28 _
  try dsimp only [setd, setn, ev, nth, over, cl, eI, eP, eT, eC, List.map, List.append, List.drop, List.take]
  refine K.seq_new (K.alloc zr_24) rfl ?_
  intro b1
  try dsimp only [setd, setn, ev, nth, over, cl, eI, eP, eT, eC, List.map, List.append, List.drop, List.take]
  refine K.seq_st (K.store_all sz_24 rfl rfl rfl rfl (K.rp0)) rfl ?_
  try dsimp only [setd, setn, ev, nth, over, cl, eI, eP, eT, eC, List.map, List.append, List.drop, List.take]
  refine K.seq_nil ?_
  refine K.norm_then ?_
  refine K.seq ?_
  refine K.region_lit ?_
  refine K.seq_sil (K.loadA_own ag_24 rfl (K.m0) rfl) rfl ?_
  try dsimp only [setd, setn, ev, nth, over, cl, eI, eP, eT, eC, List.map, List.append, List.drop, List.take]
  refine K.seq_new (K.buildSlice (bs31_4 _ _ _ _)) rfl ?_
  intro b31
  try dsimp only [setd, setn, ev, nth, over, cl, eI, eP, eT, eC, List.map, List.append, List.drop, List.take]
  refine K.seq_call (K.call_g cal_12 (fun F w hF hw => aw12 (K.Rd.lit hw (hF _ (K.m2)) (fun _ => rfl) (by decide) rfl) (K.Rd.lit hw (hF _ (K.m0)) (fun _ => rfl) (by decide) rfl))) rfl ?_
  try dsimp only [setd, setn, ev, nth, over, cl, eI, eP, eT, eC, List.map, List.append, List.drop, List.take]
  refine K.seq_pure (K.move) rfl ?_
  dsimp only [setd, setn, ev, nth]
  refine K.seq_pure (K.extract rfl rfl) rfl ?_
  dsimp only [setd, setn, ev, nth]
  refine K.seq_pure (K.extract rfl rfl) rfl ?_
  dsimp only [setd, setn, ev, nth]
  refine K.seq_pure (K.extract rfl rfl) rfl ?_
  dsimp only [setd, setn, ev, nth]
  refine K.seq_pure (K.assign) rfl ?_
  dsimp only [setd, setn, ev, nth]
  refine K.seq_pure (K.assign) rfl ?_
  dsimp only [setd, setn, ev, nth]
  refine K.seq_pure (K.assign) rfl ?_
  dsimp only [setd, setn, ev, nth]
  refine K.seq_nil ?_
  refine K.norm_then ?_
  refine K.seq ?_
  refine K.region_lit ?_
  refine K.seq_sil (K.loadA_own ag_24 rfl (K.m1) rfl) rfl ?_
  try dsimp only [setd, setn, ev, nth, over, cl, eI, eP, eT, eC, List.map, List.append, List.drop, List.take]
  refine K.seq_loud (K.call_f cal_13 (fun F w hF hw => aw13 (K.Rd.lit hw (hF _ (K.m2)) (fun _ => rfl) (by decide) rfl))) rfl ?_
  rintro ⟨A1, c1⟩ hA1
  try dsimp only [setd, setn, ev, nth, over, cl, eI, eP, eT, eC, List.map, List.append, List.drop, List.take]
  refine K.seq_pure (K.move) rfl ?_
  dsimp only [setd, setn, ev, nth]
  refine K.seq_pure (K.extract rfl rfl) rfl ?_
  dsimp only [setd, setn, ev, nth]
  refine K.seq_pure (K.extract rfl rfl) rfl ?_
  dsimp only [setd, setn, ev, nth]
  refine K.seq_pure (K.assign) rfl ?_
  dsimp only [setd, setn, ev, nth]
  refine K.seq_pure (K.assign) rfl ?_
  dsimp only [setd, setn, ev, nth]
  refine K.seq_nil ?_
  refine K.norm_then ?_
  refine K.seq ?_
  refine K.region_lit ?_
  refine K.seq_loud (K.call_f cal_15 (fun F w hF hw => c15 w)) rfl ?_
  rintro q42 _
  try dsimp only [setd, setn, ev, nth, over, cl, eI, eP, eT, eC, List.map, List.append, List.drop, List.take]
  refine K.seq_call (K.call_g cal_16 (fun F w hF hw => aw16 (K.Rd.lit hw (hF _ (K.m0)) (fun _ => rfl) (by decide) rfl) (by decide))) rfl ?_
  try dsimp only [setd, setn, ev, nth, over, cl, eI, eP, eT, eC, List.map, List.append, List.drop, List.take]
  refine K.seq_pure (K.move) rfl ?_
  dsimp only [setd, setn, ev, nth]
  refine K.seq_pure (K.extract rfl rfl) rfl ?_
  dsimp only [setd, setn, ev, nth]
  refine K.seq_pure (K.extract rfl rfl) rfl ?_
  dsimp only [setd, setn, ev, nth]
  refine K.seq_pure (K.extract rfl rfl) rfl ?_
  dsimp only [setd, setn, ev, nth]
  refine K.seq_pure (K.assign) rfl ?_
  dsimp only [setd, setn, ev, nth]
  refine K.seq_pure (K.assign) rfl ?_
  dsimp only [setd, setn, ev, nth]
  refine K.seq_pure (K.assign) rfl ?_
  dsimp only [setd, setn, ev, nth]
  refine K.seq_nil ?_
  refine K.norm_then ?_
  refine K.seq ?_
  refine K.region_lit ?_
  refine K.seq_sil (K.loadA_own ag_24 rfl (K.m3) rfl) rfl ?_
  try dsimp only [setd, setn, ev, nth, over, cl, eI, eP, eT, eC, List.map, List.append, List.drop, List.take]
  refine K.seq_call (K.call_g cal_17 (fun F w hF hw => aw17 (K.Rd.lit hw (hF _ (K.m4)) (fun _ => rfl) (by decide) rfl))) rfl ?_
  try dsimp only [setd, setn, ev, nth, over, cl, eI, eP, eT, eC, List.map, List.append, List.drop, List.take]
  refine K.seq_pure (K.move) rfl ?_
  dsimp only [setd, setn, ev, nth]
  refine K.seq_pure (K.extract rfl rfl) rfl ?_
  dsimp only [setd, setn, ev, nth]
  refine K.seq_pure (K.extract rfl rfl) rfl ?_
  dsimp only [setd, setn, ev, nth]
  refine K.seq_pure (K.assign) rfl ?_
  dsimp only [setd, setn, ev, nth]
  refine K.seq_pure (K.assign) rfl ?_
  dsimp only [setd, setn, ev, nth]
  refine K.seq_nil ?_
  refine K.norm_then ?_
  refine K.seq ?_
  refine K.region_lit ?_
  refine K.seq_sil (K.loadA_own ag_24 rfl (K.m3) rfl) rfl ?_
  try dsimp only [setd, setn, ev, nth, over, cl, eI, eP, eT, eC, List.map, List.append, List.drop, List.take]
  refine K.seq_new (K.buildSlice (bs31_4 _ _ _ _)) rfl ?_
  intro b54
  try dsimp only [setd, setn, ev, nth, over, cl, eI, eP, eT, eC, List.map, List.append, List.drop, List.take]
  refine K.seq_call (K.call_g cal_18 (fun F w hF hw => aw18 (K.Rd.lit hw (hF _ (K.m5)) (fun _ => rfl) (by decide) rfl) (K.Rd.lit hw (hF _ (K.m0)) (fun _ => rfl) (by decide) rfl))) rfl ?_
  try dsimp only [setd, setn, ev, nth, over, cl, eI, eP, eT, eC, List.map, List.append, List.drop, List.take]
  refine K.seq_pure (K.move) rfl ?_
  dsimp only [setd, setn, ev, nth]
  refine K.seq_pure (K.extract rfl rfl) rfl ?_
  dsimp only [setd, setn, ev, nth]
  refine K.seq_pure (K.extract rfl rfl) rfl ?_
  dsimp only [setd, setn, ev, nth]
  refine K.seq_pure (K.assign) rfl ?_
  dsimp only [setd, setn, ev, nth]
  refine K.seq_pure (K.assign) rfl ?_
  dsimp only [setd, setn, ev, nth]
  refine K.seq_nil ?_
  refine K.norm_then ?_
  refine K.seq ?_
  refine K.region_lit ?_
  refine K.seq_sil (K.loadA_own ag_24 rfl (K.m4) rfl) rfl ?_
  try dsimp only [setd, setn, ev, nth, over, cl, eI, eP, eT, eC, List.map, List.append, List.drop, List.take]
  refine K.seq_new (K.buildSlice (bs31_4 _ _ _ _)) rfl ?_
  intro b60
  try dsimp only [setd, setn, ev, nth, over, cl, eI, eP, eT, eC, List.map, List.append, List.drop, List.take]
  refine K.seq_loud (K.call_f cal_19 (fun F w hF hw => aw19 (K.Rd.lit hw (hF _ (K.m6)) (fun _ => rfl) (by decide) rfl) (K.Rd.lit hw (hF _ (K.m0)) (fun _ => rfl) (by decide) rfl))) rfl ?_
  rintro ⟨A2, c2⟩ hA2
  try dsimp only [setd, setn, ev, nth, over, cl, eI, eP, eT, eC, List.map, List.append, List.drop, List.take]
  refine K.seq_pure (K.move) rfl ?_
  dsimp only [setd, setn, ev, nth]
  refine K.seq_pure (K.extract rfl rfl) rfl ?_
  dsimp only [setd, setn, ev, nth]
  refine K.seq_pure (K.extract rfl rfl) rfl ?_
  dsimp only [setd, setn, ev, nth]
  refine K.seq_pure (K.assign) rfl ?_
  dsimp only [setd, setn, ev, nth]
  refine K.seq_pure (K.assign) rfl ?_
  dsimp only [setd, setn, ev, nth]
  refine K.seq_nil ?_
  refine K.norm_then ?_
  refine K.seq ?_
  refine K.draw_L [] Try_mixed ?_
  refine K.d_mem 0 rfl (K.loadA_own ag_24 rfl (K.m6) rfl) (fun _ h => h) (by kernel_rfl) (by kernel_rfl) rfl ?_
  try dsimp only [setd, setn, ev, nth, over, cl, eI, eP, eT, eC, List.map, List.append, List.drop, List.take]
  refine K.d_call 1 rfl (K.call_g cal_21 (fun F w hF hw => c21 w)) (fun _ h => h) (by kernel_rfl) rfl ?_
  try dsimp only [setd, setn, ev, nth, over, cl, eI, eP, eT, eC, List.map, List.append, List.drop, List.take]
  refine K.d_call 2 rfl (K.call_g cal_21 (fun F w hF hw => c21 w)) (fun _ h => h) (by kernel_rfl) rfl ?_
  try dsimp only [setd, setn, ev, nth, over, cl, eI, eP, eT, eC, List.map, List.append, List.drop, List.take]
  refine K.d_new 3 rfl (K.buildSlice (bs59_2 _ _ _ _)) (fun _ h => h) (by kernel_rfl) rfl ?_
  intro b68
  try dsimp only [setd, setn, ev, nth, over, cl, eI, eP, eT, eC, List.map, List.append, List.drop, List.take]
  refine K.d_loud 4 rfl (K.call_f cal_20 (fun F w hF hw => aw20 (K.Rd.lit hw (hF _ (K.m8)) (fun _ => rfl) (by decide) rfl) (K.Rd.lit hw (hF _ (K.m0)) (fun _ => rfl) (by decide) rfl))) (fun _ h => K.tl h) (by kernel_rfl) rfl ?_
  rintro ⟨A3, c3⟩ hA3
  try dsimp only [setd, setn, ev, nth, over, cl, eI, eP, eT, eC, List.map, List.append, List.drop, List.take]
  refine K.d_pure 5 rfl (K.move) (by kernel_rfl) rfl ?_
  dsimp only [setd, setn, ev, nth]
  refine K.d_pure 6 rfl (K.extract rfl rfl) (by kernel_rfl) rfl ?_
  dsimp only [setd, setn, ev, nth]
  refine K.d_pure 7 rfl (K.extract rfl rfl) (by kernel_rfl) rfl ?_
  dsimp only [setd, setn, ev, nth]
  refine K.d_pure 8 rfl (K.assign) (by kernel_rfl) rfl ?_
  dsimp only [setd, setn, ev, nth]
  refine K.d_pure 9 rfl (K.assign) (by kernel_rfl) rfl ?_
  dsimp only [setd, setn, ev, nth]
  refine K.d_done (by kernel_rfl) ?_
  refine K.norm_then ?_
  refine K.seq ?_
  refine K.region_lit ?_
  refine K.seq_sil (K.loadA_own ag_24 rfl (K.m8) rfl) rfl ?_
  try dsimp only [setd, setn, ev, nth, over, cl, eI, eP, eT, eC, List.map, List.append, List.drop, List.take]
  refine K.seq_loud (K.call_f cal_22 (fun F w hF hw => aw22a (K.Rd.lit hw (hF _ (K.m9)) (fun _ => rfl) (by decide) rfl))) rfl ?_
  rintro ⟨A4, c4⟩ hA4
  try dsimp only [setd, setn, ev, nth, over, cl, eI, eP, eT, eC, List.map, List.append, List.drop, List.take]
  refine K.seq_pure (K.move) rfl ?_
  dsimp only [setd, setn, ev, nth]
  refine K.seq_pure (K.extract rfl rfl) rfl ?_
  dsimp only [setd, setn, ev, nth]
  refine K.seq_pure (K.extract rfl rfl) rfl ?_
  dsimp only [setd, setn, ev, nth]
  refine K.seq_pure (K.extract rfl rfl) rfl ?_
  dsimp only [setd, setn, ev, nth]
  refine K.seq_pure (K.extract rfl rfl) rfl ?_
  dsimp only [setd, setn, ev, nth]
  refine K.seq_pure (K.assign) rfl ?_
  dsimp only [setd, setn, ev, nth]
  refine K.seq_pure (K.assign) rfl ?_
  dsimp only [setd, setn, ev, nth]
  refine K.seq_pure (K.assign) rfl ?_
  dsimp only [setd, setn, ev, nth]
  refine K.seq_pure (K.assign) rfl ?_
  dsimp only [setd, setn, ev, nth]
  refine K.seq_nil ?_
  refine K.norm_then ?_
  refine K.seq ?_
  refine K.region_lit ?_
  refine K.seq_loud (K.call_f cal_23 (fun F w hF hw => c23 w)) rfl ?_
  rintro q80 _
  try dsimp only [setd, setn, ev, nth, over, cl, eI, eP, eT, eC, List.map, List.append, List.drop, List.take]
  refine K.seq_loud (K.call_f cal_22 (fun F w hF hw => aw22b (K.Rd.lit hw (hF _ (K.m0)) (fun _ => rfl) (by decide) rfl))) rfl ?_
  rintro ⟨A5, c5⟩ hA5
  try dsimp only [setd, setn, ev, nth, over, cl, eI, eP, eT, eC, List.map, List.append, List.drop, List.take]
  refine K.seq_pure (K.move) rfl ?_
  dsimp only [setd, setn, ev, nth]
  refine K.seq_pure (K.extract rfl rfl) rfl ?_
  dsimp only [setd, setn, ev, nth]
  refine K.seq_pure (K.extract rfl rfl) rfl ?_
  dsimp only [setd, setn, ev, nth]
  refine K.seq_pure (K.extract rfl rfl) rfl ?_
  dsimp only [setd, setn, ev, nth]
  refine K.seq_pure (K.extract rfl rfl) rfl ?_
  dsimp only [setd, setn, ev, nth]
  refine K.seq_pure (K.assign) rfl ?_
  dsimp only [setd, setn, ev, nth]
  refine K.seq_pure (K.assign) rfl ?_
  dsimp only [setd, setn, ev, nth]
  refine K.seq_pure (K.assign) rfl ?_
  dsimp only [setd, setn, ev, nth]
  refine K.seq_pure (K.assign) rfl ?_
  dsimp only [setd, setn, ev, nth]
  refine K.seq_nil ?_
  refine K.norm_then ?_
  refine K.seq ?_
  refine K.region_lit ?_
  refine K.seq_loud (K.call_f cal_15 (fun F w hF hw => c15 w)) rfl ?_
  rintro q87 _
  try dsimp only [setd, setn, ev, nth, over, cl, eI, eP, eT, eC, List.map, List.append, List.drop, List.take]
  refine K.seq_loud (K.call_f cal_13 (fun F w hF hw => aw13b (K.Rd.lit hw (hF _ (K.m0)) (fun _ => rfl) (by decide) rfl))) rfl ?_
  rintro ⟨A6, c6⟩ hA6
  try dsimp only [setd, setn, ev, nth, over, cl, eI, eP, eT, eC, List.map, List.append, List.drop, List.take]
  refine K.seq_pure (K.move) rfl ?_
  dsimp only [setd, setn, ev, nth]
  refine K.seq_pure (K.extract rfl rfl) rfl ?_
  dsimp only [setd, setn, ev, nth]
  refine K.seq_pure (K.extract rfl rfl) rfl ?_
  dsimp only [setd, setn, ev, nth]
  refine K.seq_pure (K.assign) rfl ?_
  dsimp only [setd, setn, ev, nth]
  refine K.seq_pure (K.assign) rfl ?_
  dsimp only [setd, setn, ev, nth]
  refine K.seq_nil ?_
  refine K.norm_then ?_
  refine K.seq ?_
  refine K.region_lit ?_
  refine K.seq_pure (K.move) rfl ?_
  dsimp only [setd, setn, ev, nth]
  refine K.seq_pure (K.Pure.eq (K.eql rfl rfl) (show _ = Value.bool true from rfl)) rfl ?_
  dsimp only [setd, setn, ev, nth]
  refine K.seq_pure (K.move) rfl ?_
  dsimp only [setd, setn, ev, nth]
  refine K.seq_pure (K.move) rfl ?_
  dsimp only [setd, setn, ev, nth]
  refine K.seq_pure (K.Pure.eq (K.eql rfl rfl) (show _ = Value.bool true from rfl)) rfl ?_
  dsimp only [setd, setn, ev, nth]
  refine K.seq_pure (K.pick_t rfl) rfl ?_
  dsimp only [setd, setn, ev, nth]
  refine K.seq_pure (K.move) rfl ?_
  dsimp only [setd, setn, ev, nth]
  refine K.seq_pure (K.move) rfl ?_
  dsimp only [setd, setn, ev, nth]
  refine K.seq_pure (K.Pure.eq (K.eql rfl rfl) (show _ = Value.bool true from rfl)) rfl ?_
  dsimp only [setd, setn, ev, nth]
  refine K.seq_pure (K.pick_t rfl) rfl ?_
  dsimp only [setd, setn, ev, nth]
  refine K.seq_pure (K.move) rfl ?_
  dsimp only [setd, setn, ev, nth]
  refine K.seq_pure (K.move) rfl ?_
  dsimp only [setd, setn, ev, nth]
  refine K.seq_pure (K.Pure.eq (K.eql rfl rfl) (show _ = Value.bool true from rfl)) rfl ?_
  dsimp only [setd, setn, ev, nth]
  refine K.seq_pure (K.pick_t rfl) rfl ?_
  dsimp only [setd, setn, ev, nth]
  refine K.seq_pure (K.move) rfl ?_
  dsimp only [setd, setn, ev, nth]
  refine K.seq_pure (K.move) rfl ?_
  dsimp only [setd, setn, ev, nth]
  refine K.seq_pure (K.Pure.eq (K.eql rfl rfl) (show _ = Value.bool true from rfl)) rfl ?_
  dsimp only [setd, setn, ev, nth]
  refine K.seq_pure (K.pick_t rfl) rfl ?_
  dsimp only [setd, setn, ev, nth]
  refine K.seq_pure (K.move) rfl ?_
  dsimp only [setd, setn, ev, nth]
  refine K.seq_pure (K.move) rfl ?_
  dsimp only [setd, setn, ev, nth]
  refine K.seq_pure (K.Pure.eq (K.eql rfl rfl) (show _ = Value.bool true from rfl)) rfl ?_
  dsimp only [setd, setn, ev, nth]
  refine K.seq_pure (K.pick_t rfl) rfl ?_
  dsimp only [setd, setn, ev, nth]
  refine K.seq_pure (K.move) rfl ?_
  dsimp only [setd, setn, ev, nth]
  refine K.seq_pure (K.move) rfl ?_
  dsimp only [setd, setn, ev, nth]
  refine K.seq_pure (K.Pure.eq (K.eql rfl rfl) (show _ = Value.bool true from rfl)) rfl ?_
  dsimp only [setd, setn, ev, nth]
  refine K.seq_pure (K.pick_t rfl) rfl ?_
  dsimp only [setd, setn, ev, nth]
  refine K.seq_pure (K.move) rfl ?_
  dsimp only [setd, setn, ev, nth]
  refine K.seq_pure (K.move) rfl ?_
  dsimp only [setd, setn, ev, nth]
  refine K.seq_pure (K.Pure.eq (K.eql rfl rfl) (show _ = Value.bool true from rfl)) rfl ?_
  dsimp only [setd, setn, ev, nth]
  refine K.seq_pure (K.pick_t rfl) rfl ?_
  dsimp only [setd, setn, ev, nth]
  refine K.seq_pure (K.move) rfl ?_
  dsimp only [setd, setn, ev, nth]
  refine K.seq_pure (K.move) rfl ?_
  dsimp only [setd, setn, ev, nth]
  refine K.seq_pure (K.Pure.eq (K.eql rfl rfl) (show _ = Value.bool true from rfl)) rfl ?_
  dsimp only [setd, setn, ev, nth]
  refine K.seq_pure (K.pick_t rfl) rfl ?_
  dsimp only [setd, setn, ev, nth]
  refine K.seq_pure (K.move) rfl ?_
  dsimp only [setd, setn, ev, nth]
  refine K.seq_pure (K.move) rfl ?_
  dsimp only [setd, setn, ev, nth]
  refine K.seq_pure (K.Pure.eq (K.eql rfl rfl) (show _ = Value.bool true from rfl)) rfl ?_
  dsimp only [setd, setn, ev, nth]
  refine K.seq_pure (K.pick_t rfl) rfl ?_
  dsimp only [setd, setn, ev, nth]
  refine K.seq_pure (K.move) rfl ?_
  dsimp only [setd, setn, ev, nth]
  refine K.seq_pure (K.move) rfl ?_
  dsimp only [setd, setn, ev, nth]
  refine K.seq_pure (K.Pure.eq (K.eql rfl rfl) (show _ = Value.bool true from rfl)) rfl ?_
  dsimp only [setd, setn, ev, nth]
  refine K.seq_pure (K.pick_t rfl) rfl ?_
  dsimp only [setd, setn, ev, nth]
  refine K.seq_pure (K.move) rfl ?_
  dsimp only [setd, setn, ev, nth]
  refine K.seq_pure (K.move) rfl ?_
  dsimp only [setd, setn, ev, nth]
  refine K.seq_pure (K.Pure.eq (K.eql rfl rfl) (show _ = Value.bool true from rfl)) rfl ?_
  dsimp only [setd, setn, ev, nth]
  refine K.seq_pure (K.pick_t rfl) rfl ?_
  dsimp only [setd, setn, ev, nth]
  refine K.seq_pure (K.move) rfl ?_
  dsimp only [setd, setn, ev, nth]
  refine K.seq_pure (K.move) rfl ?_
  dsimp only [setd, setn, ev, nth]
  refine K.seq_call (K.call_g cal_25 (fun F w hF hw => c25 w)) rfl ?_
  try dsimp only [setd, setn, ev, nth, over, cl, eI, eP, eT, eC, List.map, List.append, List.drop, List.take]
  refine K.seq_call (K.call_g cal_25 (fun F w hF hw => c25 w)) rfl ?_
  try dsimp only [setd, setn, ev, nth, over, cl, eI, eP, eT, eC, List.map, List.append, List.drop, List.take]
  refine K.seq_call (K.call_g cal_25 (fun F w hF hw => c25 w)) rfl ?_
  try dsimp only [setd, setn, ev, nth, over, cl, eI, eP, eT, eC, List.map, List.append, List.drop, List.take]
  refine K.seq_call (K.call_g cal_25 (fun F w hF hw => c25 w)) rfl ?_
  try dsimp only [setd, setn, ev, nth, over, cl, eI, eP, eT, eC, List.map, List.append, List.drop, List.take]
  refine K.seq_new (K.buildSlice (bs48 _ _ _ _ _ _ _ _)) rfl ?_
  intro b143
  try dsimp only [setd, setn, ev, nth, over, cl, eI, eP, eT, eC, List.map, List.append, List.drop, List.take]
  refine K.seq_call (K.call_g cal_24 (fun F w hF hw => c24 (xs := [(7, 8), (9, 10), (7, 8), (5, 6)]) (K.Rd.own hw (hF _ (K.m12)) hA1 (fun _ => rfl) (by decide)) (K.Rd.lit hw (hF _ (K.m0)) (fun _ => rfl) (by decide) rfl) (by decide))) rfl ?_
  try dsimp only [setd, setn, ev, nth, over, cl, eI, eP, eT, eC, List.map, List.append, List.drop, List.take]
  refine K.seq_pure (K.pick_t rfl) rfl ?_
  dsimp only [setd, setn, ev, nth]
  refine K.seq_pure (K.move) rfl ?_
  dsimp only [setd, setn, ev, nth]
  refine K.seq_pure (K.move) rfl ?_
  dsimp only [setd, setn, ev, nth]
  refine K.seq_pure (K.Pure.eq (K.eql rfl rfl) (show _ = Value.bool true from rfl)) rfl ?_
  dsimp only [setd, setn, ev, nth]
  refine K.seq_pure (K.pick_t rfl) rfl ?_
  dsimp only [setd, setn, ev, nth]
  refine K.seq_pure (K.move) rfl ?_
  dsimp only [setd, setn, ev, nth]
  refine K.seq_pure (K.move) rfl ?_
  dsimp only [setd, setn, ev, nth]
  refine K.seq_pure (K.Pure.eq (K.eql rfl rfl) (show _ = Value.bool true from rfl)) rfl ?_
  dsimp only [setd, setn, ev, nth]
  refine K.seq_pure (K.pick_t rfl) rfl ?_
  dsimp only [setd, setn, ev, nth]
  refine K.seq_pure (K.move) rfl ?_
  dsimp only [setd, setn, ev, nth]
  refine K.seq_pure (K.move) rfl ?_
  dsimp only [setd, setn, ev, nth]
  refine K.seq_pure (K.Pure.eq (K.eql rfl rfl) (show _ = Value.bool true from rfl)) rfl ?_
  dsimp only [setd, setn, ev, nth]
  refine K.seq_pure (K.pick_t rfl) rfl ?_
  dsimp only [setd, setn, ev, nth]
  refine K.seq_pure (K.move) rfl ?_
  dsimp only [setd, setn, ev, nth]
  refine K.seq_pure (K.move) rfl ?_
  dsimp only [setd, setn, ev, nth]
  refine K.seq_pure (K.Pure.eq (K.eql rfl rfl) (show _ = Value.bool true from rfl)) rfl ?_
  dsimp only [setd, setn, ev, nth]
  refine K.seq_pure (K.pick_t rfl) rfl ?_
  dsimp only [setd, setn, ev, nth]
  refine K.seq_pure (K.move) rfl ?_
  dsimp only [setd, setn, ev, nth]
  refine K.seq_pure (K.move) rfl ?_
  dsimp only [setd, setn, ev, nth]
  refine K.seq_call (K.call_g cal_21 (fun F w hF hw => c21 w)) rfl ?_
  try dsimp only [setd, setn, ev, nth, over, cl, eI, eP, eT, eC, List.map, List.append, List.drop, List.take]
  refine K.seq_call (K.call_g cal_21 (fun F w hF hw => c21 w)) rfl ?_
  try dsimp only [setd, setn, ev, nth, over, cl, eI, eP, eT, eC, List.map, List.append, List.drop, List.take]
  refine K.seq_call (K.call_g cal_21 (fun F w hF hw => c21 w)) rfl ?_
  try dsimp only [setd, setn, ev, nth, over, cl, eI, eP, eT, eC, List.map, List.append, List.drop, List.take]
  refine K.seq_call (K.call_g cal_21 (fun F w hF hw => c21 w)) rfl ?_
  try dsimp only [setd, setn, ev, nth, over, cl, eI, eP, eT, eC, List.map, List.append, List.drop, List.take]
  refine K.seq_call (K.call_g cal_21 (fun F w hF hw => c21 w)) rfl ?_
  try dsimp only [setd, setn, ev, nth, over, cl, eI, eP, eT, eC, List.map, List.append, List.drop, List.take]
  refine K.seq_call (K.call_g cal_21 (fun F w hF hw => c21 w)) rfl ?_
  try dsimp only [setd, setn, ev, nth, over, cl, eI, eP, eT, eC, List.map, List.append, List.drop, List.take]
  refine K.seq_call (K.call_g cal_21 (fun F w hF hw => c21 w)) rfl ?_
  try dsimp only [setd, setn, ev, nth, over, cl, eI, eP, eT, eC, List.map, List.append, List.drop, List.take]
  refine K.seq_call (K.call_g cal_21 (fun F w hF hw => c21 w)) rfl ?_
  try dsimp only [setd, setn, ev, nth, over, cl, eI, eP, eT, eC, List.map, List.append, List.drop, List.take]
  refine K.seq_new (K.buildSlice (bs59_8 _ _ _ _ _ _ _ _ _ _ _ _ _ _ _ _ )) rfl ?_
  intro b172
  try dsimp only [setd, setn, ev, nth, over, cl, eI, eP, eT, eC, List.map, List.append, List.drop, List.take]
  refine K.seq_call (K.call_g cal_26 (fun F w hF hw => c26 (xs := [(0, 1), (3, 3), (0, 0), (3, 3), (3, 3), (3, 3), (3, 3), (3, 3)]) (K.Rd.own hw (hF _ (K.m9)) hA2 (fun _ => rfl) (by decide)) (K.Rd.lit hw (hF _ (K.m0)) (fun _ => rfl) (by decide) rfl) (by decide))) rfl ?_
  try dsimp only [setd, setn, ev, nth, over, cl, eI, eP, eT, eC, List.map, List.append, List.drop, List.take]
  refine K.seq_pure (K.pick_t rfl) rfl ?_
  dsimp only [setd, setn, ev, nth]
  refine K.seq_pure (K.move) rfl ?_
  dsimp only [setd, setn, ev, nth]
  refine K.seq_pure (K.move) rfl ?_
  dsimp only [setd, setn, ev, nth]
  refine K.seq_new (K.buildSlice (bs31_4 _ _ _ _)) rfl ?_
  intro b177
  try dsimp only [setd, setn, ev, nth, over, cl, eI, eP, eT, eC, List.map, List.append, List.drop, List.take]
  refine K.seq_call (K.call_g cal_27 (fun F w hF hw => Sc.c19t (xs := [1, 1, 0, 1]) (K.Rd.own hw (hF _ (K.m8)) hA3 (fun _ => rfl) (by decide)) (K.Rd.lit hw (hF _ (K.m0)) (fun _ => rfl) (by decide) rfl) (by decide))) rfl ?_
  try dsimp only [setd, setn, ev, nth, over, cl, eI, eP, eT, eC, List.map, List.append, List.drop, List.take]
  refine K.seq_pure (K.pick_t rfl) rfl ?_
  dsimp only [setd, setn, ev, nth]
  refine K.seq_pure (K.move) rfl ?_
  dsimp only [setd, setn, ev, nth]
  refine K.seq_pure (K.move) rfl ?_
  dsimp only [setd, setn, ev, nth]
  refine K.seq_new (K.buildSlice (bs31_4 _ _ _ _)) rfl ?_
  intro b182
  try dsimp only [setd, setn, ev, nth, over, cl, eI, eP, eT, eC, List.map, List.append, List.drop, List.take]
  refine K.seq_call (K.call_g cal_27 (fun F w hF hw => Sc.c19t (xs := [8, 9, 7, 6]) (K.Rd.own hw (hF _ (K.m8)) hA4 (fun _ => rfl) (by decide)) (K.Rd.lit hw (hF _ (K.m0)) (fun _ => rfl) (by decide) rfl) (by decide))) rfl ?_
  try dsimp only [setd, setn, ev, nth, over, cl, eI, eP, eT, eC, List.map, List.append, List.drop, List.take]
  refine K.seq_pure (K.pick_t rfl) rfl ?_
  dsimp only [setd, setn, ev, nth]
  refine K.seq_pure (K.move) rfl ?_
  dsimp only [setd, setn, ev, nth]
  refine K.seq_pure (K.move) rfl ?_
  dsimp only [setd, setn, ev, nth]
  refine K.seq_pure (K.Pure.eq (K.eql rfl rfl) (show _ = Value.bool true from rfl)) rfl ?_
  dsimp only [setd, setn, ev, nth]
  refine K.seq_pure (K.pick_t rfl) rfl ?_
  dsimp only [setd, setn, ev, nth]
  refine K.seq_pure (K.move) rfl ?_
  dsimp only [setd, setn, ev, nth]
  refine K.seq_pure (K.move) rfl ?_
  dsimp only [setd, setn, ev, nth]
  refine K.seq_pure (K.Pure.eq (K.eql rfl rfl) (show _ = Value.bool true from rfl)) rfl ?_
  dsimp only [setd, setn, ev, nth]
  refine K.seq_pure (K.pick_t rfl) rfl ?_
  dsimp only [setd, setn, ev, nth]
  refine K.seq_pure (K.move) rfl ?_
  dsimp only [setd, setn, ev, nth]
  refine K.seq_pure (K.move) rfl ?_
  dsimp only [setd, setn, ev, nth]
  refine K.seq_new (K.buildSlice (bs31_2 _ _)) rfl ?_
  intro b195
  try dsimp only [setd, setn, ev, nth, over, cl, eI, eP, eT, eC, List.map, List.append, List.drop, List.take]
  refine K.seq_call (K.call_g cal_27 (fun F w hF hw => Sc.c19t (xs := [10, 10]) (K.Rd.own hw (hF _ (K.m7)) hA5 (fun _ => rfl) (by decide)) (K.Rd.lit hw (hF _ (K.m0)) (fun _ => rfl) (by decide) rfl) (by decide))) rfl ?_
  try dsimp only [setd, setn, ev, nth, over, cl, eI, eP, eT, eC, List.map, List.append, List.drop, List.take]
  refine K.seq_pure (K.pick_t rfl) rfl ?_
  dsimp only [setd, setn, ev, nth]
  refine K.seq_pure (K.move) rfl ?_
  dsimp only [setd, setn, ev, nth]
  refine K.seq_pure (K.move) rfl ?_
  dsimp only [setd, setn, ev, nth]
  refine K.seq_pure (K.Pure.eq (K.eql rfl rfl) (show _ = Value.bool true from rfl)) rfl ?_
  dsimp only [setd, setn, ev, nth]
  refine K.seq_pure (K.pick_t rfl) rfl ?_
  dsimp only [setd, setn, ev, nth]
  refine K.seq_pure (K.move) rfl ?_
  dsimp only [setd, setn, ev, nth]
  refine K.seq_pure (K.move) rfl ?_
  dsimp only [setd, setn, ev, nth]
  refine K.seq_pure (K.Pure.eq (K.eql rfl rfl) (show _ = Value.bool true from rfl)) rfl ?_
  dsimp only [setd, setn, ev, nth]
  refine K.seq_pure (K.pick_t rfl) rfl ?_
  dsimp only [setd, setn, ev, nth]
  refine K.seq_pure (K.assign) rfl ?_
  dsimp only [setd, setn, ev, nth]
  refine K.seq_nil ?_
  refine K.norm_then ?_
  refine K.ret ?_
  refine K.end_ret (fun w _ => K.res_tmp rfl w) ?_
  exact K.gives rfl

end Go.Proofs.Ytfbglomliankmaa.Cv
end
section
set_option linter.unusedSimpArgs false
set_option linter.unusedVariables false
namespace Go.Proofs.Ytfbglomliankmaa.Sc
open Go.RowKit Go
open Go.K (setd setn ev nth over cl eI eP eT setM setF)
attribute [local irreducible] K.blk K.row
theorem wrap8 {a : Int} (h : 0 ≤ a ∧ a ≤ 255) : IntKind.i64.wrap a = a := IntWalk.i64_in _ (by omega)

set_option maxRecDepth 100000 in
theorem c40 {a b : Int} (ha : 0 ≤ a ∧ a ≤ 255) (hb : 0 ≤ b ∧ b ≤ 255) (w : World) :
    Calls Try.prog 9 [.agg #[.int .u8 a, .int .u8 b]].toArray w (K.Ret (fun r : Int × Int => scE r.1 r.2 = 0) (fun r => .agg #[.int .i64 r.1, .int .i64 r.2]) (fun _ => []) w) := by
  refine K.enter (args := [.agg #[.int .u8 a, .int .u8 b]]) Try.func9 rfl (n := 41) rfl ?_
  simp only [List.replicate, List.cons_append, List.nil_append]
  refine K.seq ?_
  refine K.region_lit ?_
  refine K.seq_new (K.box) rfl ?_
  intro b1
  try dsimp only [setd, setn, ev, nth, over, cl, eI, eP, eT, List.map, List.append, List.drop, List.take]
  refine K.seq_new (K.alloc zr_36) rfl ?_
  intro b2
  try dsimp only [setd, setn, ev, nth, over, cl, eI, eP, eT, List.map, List.append, List.drop, List.take]
  refine K.seq_nil ?_
  refine K.norm_then ?_
  refine K.seq ?_
  refine K.region_lit ?_
  refine K.seq_pure (K.indexAddr_ar ar_38 rfl rfl (by omega) (by omega)) rfl ?_
  try dsimp only [setd, setn, ev, nth, over, cl, eI, eP, eT, List.map, List.append, List.drop, List.take]
  refine K.seq_sil (K.load1_own one_5 rfl (K.m1) rfl) rfl ?_
  try dsimp only [setd, setn, ev, nth, over, cl, eI, eP, eT, List.map, List.append, List.drop, List.take]
  refine K.seq_pure (K.Pure.eq (K.conv_int ik_5 ik_3 rfl) (by rw [wrap8 ha])) rfl ?_
  try dsimp only [setd, setn, ev, nth, over, cl, eI, eP, eT, List.map, List.append, List.drop, List.take]
  refine K.seq_pure (K.rem_i64 rfl rfl (by omega) (by omega)) rfl ?_
  dsimp only [setd, setn, ev, nth]
  refine K.seq_pure (K.add_i64 rfl rfl (by omega)) rfl ?_
  dsimp only [setd, setn, ev, nth]
  refine K.seq_pure (K.indexAddr_ar ar_38 rfl rfl (by omega) (by omega)) rfl ?_
  try dsimp only [setd, setn, ev, nth, over, cl, eI, eP, eT, List.map, List.append, List.drop, List.take]
  refine K.seq_sil (K.load1_own one_5 rfl (K.m1) rfl) rfl ?_
  try dsimp only [setd, setn, ev, nth, over, cl, eI, eP, eT, List.map, List.append, List.drop, List.take]
  refine K.seq_pure (K.Pure.eq (K.conv_int ik_5 ik_3 rfl) (by rw [wrap8 hb])) rfl ?_
  try dsimp only [setd, setn, ev, nth, over, cl, eI, eP, eT, List.map, List.append, List.drop, List.take]
  refine K.seq_pure (K.rem_i64 rfl rfl (by omega) (by omega)) rfl ?_
  dsimp only [setd, setn, ev, nth]
  refine K.seq_pure (K.add_i64 rfl rfl (by omega)) rfl ?_
  dsimp only [setd, setn, ev, nth]
  refine K.seq_call (K.call_g cal_29 (fun F w hF hw => c37 w)) rfl ?_
  try dsimp only [setd, setn, ev, nth, over, cl, eI, eP, eT, List.map, List.append, List.drop, List.take]
  refine K.seq_new (K.alloc zr_36) rfl ?_
  intro b3
  try dsimp only [setd, setn, ev, nth, over, cl, eI, eP, eT, List.map, List.append, List.drop, List.take]
  refine K.seq_st (K.store_all sz_36 rfl rfl rfl rfl (K.rp0)) rfl ?_
  try dsimp only [setd, setn, ev, nth, over, cl, eI, eP, eT, List.map, List.append, List.drop, List.take]
  refine K.seq_nil ?_
  refine K.norm_then ?_
  refine K.seq ?_
  refine K.seq ?_
  refine K.region_lit ?_
  refine K.seq_pure (K.assign) rfl ?_
  dsimp only [setd, setn, ev, nth]
  refine K.seq_nil ?_
  refine K.norm_then ?_
  refine K.block ?_
  refine K.loopW [4] [16, 17, 18, 19, 20, 21, 22, 23, 24, 25, 26, 27, 28, 29, 30, 31, 32, 33, 34, 35, 36, 37, 38, 39, 40] (fun vi L => ∃ (n u v : Int), vi = [.int .i64 n] ∧ L = [K.blk b3 36 [.int .i64 u, .int .i64 v], K.blk b2 36 [.int .i64 0, .int .i64 0], K.blk b1 38 [.int .u8 a, .int .u8 b]] ∧ (1 ≤ n ∧ n ≤ 30) ∧ Parts u v ∧ ∀ m, n < m → m ≤ 30 → ¬ (u % m = 0 ∧ v % m = 0)) (fun vi => (intOf (K.nth vi 0)).toNat) ?_ ?_
  · exact ⟨30, _, _, rfl, rfl, by omega, by omega, fun m h1 h2 => absurd h1 (by omega)⟩
  intro vi vr L hJ
  obtain ⟨n, u, v, rfl, rfl, hn, hp, hall⟩ := hJ
  try dsimp only [setd, setn, ev, nth, over, cl, eI, eP, eT, setM, setF, List.map, List.append, List.drop, List.take]
  refine K.seq ?_
  refine K.seq ?_
  refine K.region_lit ?_
  refine K.seq_pure (K.move) rfl ?_
  dsimp only [setd, setn, ev, nth]
  refine K.seq_pure (K.gtr rfl rfl) rfl ?_
  dsimp only [setd, setn, ev, nth]
  refine K.seq_nil ?_
  refine K.norm_then ?_
  refine K.cond rfl (fun ht17 => ?_) (fun ht17 => ?_)
  · try replace ht17 := of_decide_eq_true ht17
    refine K.skip ?_
    refine K.norm_then ?_
    refine K.seq ?_
    refine K.block ?_
    refine K.seq ?_
    refine K.region_lit ?_
    refine K.seq_pure (K.fieldAddr_lit fo_36_0 rfl) rfl ?_
    dsimp only [setd, setn, ev, nth]
    refine K.seq_sil (K.load1_own one_3 rfl (K.m0) rfl) rfl ?_
    try dsimp only [setd, setn, ev, nth, over, cl, eI, eP, eT, List.map, List.append, List.drop, List.take]
    refine K.seq_pure (K.move) rfl ?_
    dsimp only [setd, setn, ev, nth]
    refine K.seq_pure (K.rem_i64 rfl rfl (by omega) (by omega)) rfl ?_
    dsimp only [setd, setn, ev, nth]
    refine K.seq_pure (K.eql rfl rfl) rfl ?_
    dsimp only [setd, setn, ev, nth]
    refine K.seq_pure (K.move) rfl ?_
    dsimp only [setd, setn, ev, nth]
    refine K.split 25 rfl (fun hg25 => ?_) (fun hg25 => ?_)
    · try replace hg25 := of_decide_eq_true hg25
      refine K.seq_pure (K.fieldAddr_lit fo_36_1 rfl) rfl ?_
      dsimp only [setd, setn, ev, nth]
      refine K.seq_sil (K.load1_own one_3 rfl (K.m0) rfl) rfl ?_
      try dsimp only [setd, setn, ev, nth, over, cl, eI, eP, eT, List.map, List.append, List.drop, List.take]
      refine K.seq_pure (K.move) rfl ?_
      dsimp only [setd, setn, ev, nth]
      refine K.seq_pure (K.rem_i64 rfl rfl (by omega) (by omega)) rfl ?_
      dsimp only [setd, setn, ev, nth]
      refine K.seq_pure (K.eql rfl rfl) rfl ?_
      dsimp only [setd, setn, ev, nth]
      refine K.seq_pure (K.pick_t rfl) rfl ?_
      dsimp only [setd, setn, ev, nth]
      refine K.seq_nil ?_
      refine K.norm_then ?_
      refine K.cond rfl (fun ht31 => ?_) (fun ht31 => ?_)
      · try replace ht31 := of_decide_eq_true ht31
        refine K.draw_L [9] Try_mixed ?_
        refine K.d_pure 0 rfl (K.fieldAddr_lit fo_36_0 rfl) (by kernel_rfl) rfl ?_
        dsimp only [setd, setn, ev, nth]
        refine K.d_mem 1 rfl (K.load1_own one_3 rfl (K.m0) rfl) (fun _ h => h) (by kernel_rfl) (by kernel_rfl) rfl ?_
        try dsimp only [setd, setn, ev, nth, over, cl, eI, eP, eT, List.map, List.append, List.drop, List.take]
        refine K.d_pure 2 rfl (K.move) (by kernel_rfl) rfl ?_
        dsimp only [setd, setn, ev, nth]
        refine K.d_pure 3 rfl (K.quo_i64 rfl rfl (by omega) (by omega) (by omega)) (by kernel_rfl) rfl ?_
        dsimp only [setd, setn, ev, nth]
        refine K.d_pure 4 rfl (K.fieldAddr_lit fo_36_1 rfl) (by kernel_rfl) rfl ?_
        dsimp only [setd, setn, ev, nth]
        refine K.d_mem 5 rfl (K.load1_own one_3 rfl (K.m0) rfl) (fun _ h => h) (by kernel_rfl) (by kernel_rfl) rfl ?_
        try dsimp only [setd, setn, ev, nth, over, cl, eI, eP, eT, List.map, List.append, List.drop, List.take]
        refine K.d_pure 6 rfl (K.move) (by kernel_rfl) rfl ?_
        dsimp only [setd, setn, ev, nth]
        refine K.d_pure 7 rfl (K.quo_i64 rfl rfl (by omega) (by omega) (by omega)) (by kernel_rfl) rfl ?_
        dsimp only [setd, setn, ev, nth]
        refine K.d_call 8 rfl (K.call_g cal_29 (fun F w hF hw => c37 w)) (fun _ h => h) (by kernel_rfl) rfl ?_
        try dsimp only [setd, setn, ev, nth, over, cl, eI, eP, eT, List.map, List.append, List.drop, List.take]
        refine K.d_last 9 rfl (K.store_all sz_36 rfl rfl rfl rfl (K.rp0)) rfl (by kernel_rfl) rfl ?_
        intro _ _
        try dsimp only [setd, setn, ev, nth, over, cl, eI, eP, eT, List.map, List.append, List.drop, List.take]
        refine K.d_done (by kernel_rfl) ?_
        refine K.norm_block ?_
        refine K.norm_then ?_
        refine K.region_lit ?_
        refine K.seq_pure (K.move) rfl ?_
        dsimp only [setd, setn, ev, nth]
        refine K.seq_pure (K.sub_i64 rfl rfl (by omega)) rfl ?_
        dsimp only [setd, setn, ev, nth]
        refine K.seq_pure (K.assign) rfl ?_
        dsimp only [setd, setn, ev, nth]
        refine K.seq_nil ?_
        have hnext : (¬ (u % n = 0 ∧ v % n = 0)) → ∀ m, n - 1 < m → m ≤ 30 → ¬ (u % m = 0 ∧ v % m = 0) := fun hno m h1 h2 hh => (Int.lt_or_eq_of_le (show n ≤ m by omega)).elim (fun h3 => hall m h3 h2 hh) (fun h3 => hno (by rw [h3]; exact hh))
        first | (have hd := div_step hp (by omega) hg25 ht31 hall; exact K.round_endW (L'' := [K.blk b3 36 [.int .i64 (u / n), .int .i64 (v / n)], K.blk b2 36 [.int .i64 0, .int .i64 0], K.blk b1 38 [.int .u8 a, .int .u8 b]]) [.int .i64 (n - 1)] ⟨n - 1, u / n, v / n, rfl, rfl, by omega, hd.1, hd.2⟩ (by simp [K.nth, intOf]; omega) (by repeat (first | exact List.Sublist.refl _ | apply List.Sublist.cons)) (by kernel_rfl)) | exact K.round_endW [.int .i64 (n - 1)] ⟨n - 1, u, v, rfl, rfl, by omega, hp, hnext (fun h => ht31 h.2)⟩ (by simp [K.nth, intOf]; omega) (by repeat (first | exact List.Sublist.refl _ | apply List.Sublist.cons)) (by kernel_rfl)
      try replace ht31 := of_decide_eq_false ht31
      refine K.skip ?_
      refine K.norm_block ?_
      refine K.norm_then ?_
      refine K.region_lit ?_
      refine K.seq_pure (K.move) rfl ?_
      dsimp only [setd, setn, ev, nth]
      refine K.seq_pure (K.sub_i64 rfl rfl (by omega)) rfl ?_
      dsimp only [setd, setn, ev, nth]
      refine K.seq_pure (K.assign) rfl ?_
      dsimp only [setd, setn, ev, nth]
      refine K.seq_nil ?_
      have hnext : (¬ (u % n = 0 ∧ v % n = 0)) → ∀ m, n - 1 < m → m ≤ 30 → ¬ (u % m = 0 ∧ v % m = 0) := fun hno m h1 h2 hh => (Int.lt_or_eq_of_le (show n ≤ m by omega)).elim (fun h3 => hall m h3 h2 hh) (fun h3 => hno (by rw [h3]; exact hh))
      first | (have hd := div_step hp (by omega) hg25 ht31 hall; exact K.round_endW (L'' := [K.blk b3 36 [.int .i64 (u / n), .int .i64 (v / n)], K.blk b2 36 [.int .i64 0, .int .i64 0], K.blk b1 38 [.int .u8 a, .int .u8 b]]) [.int .i64 (n - 1)] ⟨n - 1, u / n, v / n, rfl, rfl, by omega, hd.1, hd.2⟩ (by simp [K.nth, intOf]; omega) (by repeat (first | exact List.Sublist.refl _ | apply List.Sublist.cons)) (by kernel_rfl)) | exact K.round_endW [.int .i64 (n - 1)] ⟨n - 1, u, v, rfl, rfl, by omega, hp, hnext (fun h => ht31 h.2)⟩ (by simp [K.nth, intOf]; omega) (by repeat (first | exact List.Sublist.refl _ | apply List.Sublist.cons)) (by kernel_rfl)
    try replace hg25 := of_decide_eq_false hg25
    refine K.seq_skip ?_ ?_
    · rfl
    try dsimp only [setd, setn, ev, nth, over, cl, eI, eP, eT, List.map, List.append, List.drop, List.take]
    refine K.seq_skip ?_ ?_
    · rfl
    try dsimp only [setd, setn, ev, nth, over, cl, eI, eP, eT, List.map, List.append, List.drop, List.take]
    refine K.seq_skip ?_ ?_
    · rfl
    try dsimp only [setd, setn, ev, nth, over, cl, eI, eP, eT, List.map, List.append, List.drop, List.take]
    refine K.seq_skip ?_ ?_
    · rfl
    try dsimp only [setd, setn, ev, nth, over, cl, eI, eP, eT, List.map, List.append, List.drop, List.take]
    refine K.seq_skip ?_ ?_
    · rfl
    try dsimp only [setd, setn, ev, nth, over, cl, eI, eP, eT, List.map, List.append, List.drop, List.take]
    refine K.seq_pure (K.pick_f rfl) rfl ?_
    dsimp only [setd, setn, ev, nth]
    refine K.seq_nil ?_
    refine K.norm_then ?_
    refine K.cond_false rfl ?_
    refine K.skip ?_
    refine K.norm_block ?_
    refine K.norm_then ?_
    refine K.region_lit ?_
    refine K.seq_pure (K.move) rfl ?_
    dsimp only [setd, setn, ev, nth]
    refine K.seq_pure (K.sub_i64 rfl rfl (by omega)) rfl ?_
    dsimp only [setd, setn, ev, nth]
    refine K.seq_pure (K.assign) rfl ?_
    dsimp only [setd, setn, ev, nth]
    refine K.seq_nil ?_
    have hnext : (¬ (u % n = 0 ∧ v % n = 0)) → ∀ m, n - 1 < m → m ≤ 30 → ¬ (u % m = 0 ∧ v % m = 0) := fun hno m h1 h2 hh => (Int.lt_or_eq_of_le (show n ≤ m by omega)).elim (fun h3 => hall m h3 h2 hh) (fun h3 => hno (by rw [h3]; exact hh))
    exact K.round_endW [.int .i64 (n - 1)] ⟨n - 1, u, v, rfl, rfl, by omega, hp, hnext (fun h => hg25 h.1)⟩ (by simp [K.nth, intOf]; omega) (by repeat (first | exact List.Sublist.refl _ | apply List.Sublist.cons)) (by kernel_rfl)
  try replace ht17 := of_decide_eq_false ht17
  refine K.exit ?_
  refine K.exit_then ?_
  refine K.exit_then ?_
  refine K.exit_here ?_
  refine K.norm_then ?_
  refine K.seq ?_
  refine K.region_lit ?_
  refine K.seq_sil (K.loadA_own ag_36 rfl (K.m0) rfl) rfl ?_
  try dsimp only [setd, setn, ev, nth, over, cl, eI, eP, eT, List.map, List.append, List.drop, List.take]
  refine K.seq_st (K.store_all sz_36 rfl rfl rfl rfl (K.rp1)) rfl ?_
  try dsimp only [setd, setn, ev, nth, over, cl, eI, eP, eT, List.map, List.append, List.drop, List.take]
  refine K.seq_nil ?_
  refine K.norm_then ?_
  refine K.ret ?_
  refine K.end_ret (fun w hw => K.res_c rfl rfl (K.run_cellA ag_36 rfl (K.m1) rfl w hw)) ?_
  exact K.rets (u, v) (scE_of hp (fun m h1 h2 => hall m (by omega) h2)) rfl (List.nil_sublist _)

end Go.Proofs.Ytfbglomliankmaa.Sc
end
