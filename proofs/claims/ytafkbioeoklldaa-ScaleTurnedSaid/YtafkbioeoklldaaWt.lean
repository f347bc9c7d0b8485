/-
  Walks of the program's functions, printed by program: what each returns.
  Conditions stand in each theorem.
-/
import Derived.Test.YtafkbioeoklldaaKf
import Derived.Test.YtafkbioeoklldaaK2
import Derived.WalkArith
import Derived.Test.YtafkbioeoklldaaK4
import Derived.Test.YtafkbioeoklldaaS2
import Derived.Test.YtafkbioeoklldaaWa
import Derived.Test.YtafkbioeoklldaaWb
import Derived.Test.YtafkbioeoklldaaWc
import Derived.Test.YtafkbioeoklldaaWd
import Derived.Test.YtafkbioeoklldaaWe
import Derived.Test.YtafkbioeoklldaaWf
import Derived.Test.YtafkbioeoklldaaWg
import Derived.Test.YtafkbioeoklldaaWh
import Derived.Test.YtafkbioeoklldaaWr
set_option linter.unusedSimpArgs false
set_option linter.unusedVariables false
namespace Go.Proofs.Ytafkbioeoklldaa
open Go.RowKit Go
open Go.K (setd setn ev nth over cl eI eP eT setM setF)
attribute [local irreducible] K.blk K.row
theorem laidOut : laidOutB Try.prog = true := by kernel_rfl
theorem size164 : Try.prog.types.size = 164 := by kernel_rfl
theorem row101 : 101 < Try.prog.types.size := by rw [size164]; decide
theorem wide101 : (match Try.prog.underlying 101 with | some (.array _ _) | some (.struct _) => true | _ => false) = true := by kernel_rfl
theorem ulM : Try.prog.underlying 120 = some (.map 101 3) := by kernel_rfl
set_option maxRecDepth 100000 in
theorem mapT : K.MapT Try.prog 120 101 := ⟨⟨3, ulM, fun w => by kernel_rfl⟩, deep_law_laid laidOut (m := 10) (by omega) row101 key101 wide101⟩
theorem lits3n {m : Nat} {n : Int} (h : (Lit.int .i64 n).wf = true) : Try.prog.keyLits (m + 1) 3 [.int .i64 n] = some [.int .i64 n] := by
  unfold Program.keyLits
  rw [ul3]
  simp [h]
theorem lits101n {m : Nat} {xs : List Int} (h : Bd 0 270001 xs) : Try.prog.keyLits (m + 2) 101 (Value.agg (a8 xs).toArray).cells.toList = some (litA8 xs) := by
  have w : ∀ i, (Lit.int .i64 (xs.getD i default)).wf = true := fun i => WalkArith.wf_i64 (by have := h i; omega)
  have e : (Value.agg (a8 xs).toArray).cells.toList = a8 xs := rfl
  rw [e]
  unfold Program.keyLits
  rw [ul101]
  have e2 : List.range 8 = [0, 1, 2, 3, 4, 5, 6, 7] := rfl
  have e3 : ∀ i, i < 8 → ((a8 xs).drop (i * 1)).take 1 = [.int .i64 (xs.getD i default)] := fun i hi => by
    have : i = 0 ∨ i = 1 ∨ i = 2 ∨ i = 3 ∨ i = 4 ∨ i = 5 ∨ i = 6 ∨ i = 7 := by omega
    rcases this with h | h | h | h | h | h | h | h <;> subst h <;> rfl
  simp only [co101, co3, a8_len, if_true, e2, List.mapM_cons, List.mapM_nil, e3 0 (by omega), e3 1 (by omega), e3 2 (by omega), e3 3 (by omega), e3 4 (by omega), e3 5 (by omega), e3 6 (by omega), e3 7 (by omega), lits3n (w _)]
  rfl
theorem kt101 : Try.prog.keyType 101 = true := by kernel_rfl
theorem keyOf_kv {z : List Int} (h : Bd 0 270001 z) : ∃ q, keyOf Try.prog 101 (kv z) = some q := by
  refine ⟨.string (keyBytes (litA8 z)), ?_⟩
  unfold keyOf
  rw [ul101]
  have h1 := lits101n (m := 163) h
  simp only [size164, kt101, form101, Bool.and_self, if_true]
  rw [h1]
  rfl
theorem bd_mk {s k : Nat} {xs : List Int} (h : Bd 0 270001 xs) : Bd 0 270001 (mkI s k xs) := fun i => by
  rcases Nat.lt_or_ge i 8 with h8 | h8
  · rw [mkI_at h8]
    split
    · omega
    · exact h i
  · have : (mkI s k xs).getD i default = 0 := by rw [List.getD_eq_getElem?_getD, List.getElem?_eq_none (by rw [mkI_len]; exact h8)]; rfl
    rw [this]; omega
theorem ks_ok {zs : List (List Int)} (h : ∀ z ∈ zs, Bd 0 270001 z) : ∀ v ∈ (ddK zs).map kv, ∃ q, keyOf Try.prog 101 v = some q := fun v hv => by
  obtain ⟨z, hz, rfl⟩ := List.mem_map.1 hv
  exact keyOf_kv (h z (mem_ddK.1 hz))
theorem ks_ins {zs : List (List Int)} {z : List Int} (h8 : ∀ y ∈ zs, y.length = 8) (hz : z.length = 8) : (kv z ∈ (ddK zs).map kv → (ddK (zs ++ [z])).map kv = (ddK zs).map kv) ∧ (kv z ∉ (ddK zs).map kv → (ddK (zs ++ [z])).map kv = (ddK zs).map kv ++ [kv z]) := by
  have e : kv z ∈ (ddK zs).map kv ↔ z ∈ ddK zs := by
    constructor
    · intro h
      obtain ⟨y, hy, hyz⟩ := List.mem_map.1 h
      rw [← kv_inj (h8 y (mem_ddK.1 hy)) hz hyz]; exact hy
    · exact fun h => List.mem_map_of_mem h
  rw [e, ddK_snoc]
  unfold K.insK
  constructor
  · intro h; rw [if_pos h]
  · intro h; rw [if_neg h, List.map_append]; rfl
theorem keysT_len {kind base : Int} {hs : List Int} {s : Nat} {l : List (Int × Int)} : ∀ y ∈ keysT kind base hs s l, y.length = 8 := fun y hy => by
  obtain ⟨x, _, rfl⟩ := List.mem_map.1 hy
  exact mkI_len
theorem keysT_bd {kind base most : Int} {hs : List Int} {rs : List (Int × Int)} (g : Good kind base most hs rs) {s : Nat} {l : List (Int × Int)} (hp : ∀ x ∈ l, Parts x.1 x.2) : ∀ y ∈ keysT kind base hs s l, Bd 0 270001 y := fun y hy => by
  obtain ⟨x, hx, rfl⟩ := List.mem_map.1 hy
  exact bd_mk (g.bdc (hp x hx))
theorem keysT_snoc {kind base : Int} {hs : List Int} {s k : Nat} {l : List (Int × Int)} (h : k < l.length) : keysT kind base hs s (l.take (k + 1)) = keysT kind base hs s (l.take k) ++ [mkI s 8 (cuts kind base (l.getD k default).1 (l.getD k default).2 hs)] := by
  unfold keysT; exact take_succ_map _ h

set_option maxRecDepth 100000 in
theorem c75 {kind base most : Int} {A B : Option Addr} {c d : Nat} {hs : List Int} {rs : List (Int × Int)} {l : List (Int × Int)} {C : Option Addr} {cc : Nat} {s : Nat} {p q : Addr} {w : World} (hl : K.PtrL w [] p [.slice C l.length cc]) (hm : K.PtrL w [] q [.int .i64 kind, .int .i64 base, .int .i64 most, .slice A hs.length c, .slice B rs.length d, .func (.func (98 + kind.toNat)) #[] #[]]) (hS : K.Rd w C 2 K.eP l) (hH : K.Rd w A 1 K.eI hs) (g : Good kind base most hs rs) (hp : ∀ x ∈ l, Parts x.1 x.2) (hl6 : l.length ≤ 6) (hs8 : s < 256) :
    Calls Try.prog 75 [.int .i64 s, .pointer (some p), .pointer (some q)].toArray w (K.Gives (.bool (apB kind base hs l s)) w) := by
  have g1 := g.k
  have g2 := g.n
  have g3 := g.r
  have g4 := g.b
  have g5 := g.m
  refine K.enter (args := [.int .i64 s, .pointer (some p), .pointer (some q)]) Try.func75 rfl (n := 44) rfl ?_
  simp only [List.replicate, List.cons_append, List.nil_append]
  refine K.seq ?_
  refine K.region_lit ?_
  refine K.seq_pure (K.assign) rfl ?_
  dsimp only [setd, setn, ev, nth]
  refine K.seq_nil ?_
  refine K.norm_then ?_
  refine K.seq ?_
  refine K.region_lit ?_
  refine K.seq_new (K.mkMap) rfl ?_
  intro b11
  try dsimp only [setd, setn, ev, nth, over, cl, eI, eP, eT, List.map, List.append, List.drop, List.take]
  refine K.seq_pure (K.assign) rfl ?_
  dsimp only [setd, setn, ev, nth]
  refine K.seq_nil ?_
  refine K.norm_then ?_
  refine K.seq ?_
  refine K.seq ?_
  refine K.region_lit ?_
  refine K.seq_sil (K.load1 one_42 rfl (hl.any)) rfl ?_
  try dsimp only [setd, setn, ev, nth, over, cl, eI, eP, eT, List.map, List.append, List.drop, List.take]
  refine K.seq_pure (K.len_sl sl_42 rfl) rfl ?_
  dsimp only [setd, setn, ev, nth]
  refine K.seq_pure (K.move) rfl ?_
  dsimp only [setd, setn, ev, nth]
  refine K.seq_nil ?_
  refine K.norm_then ?_
  refine K.block ?_
  refine K.loopW [14] [7, 8, 9, 10, 15, 16, 17, 18, 19, 20, 21, 22, 23, 24, 25, 26, 27, 28, 29, 30, 31, 32, 33, 34, 35, 36, 37, 38, 39, 40, 41] (fun vi L => ∃ k : Nat, vi = [.int .i64 (k : Int)] ∧ L = [K.mp b11 none ((ddK (keysT kind base hs s (l.take k))).map kv)] ∧ k ≤ l.length) (fun vi => l.length - (intOf (K.nth vi 0)).toNat) ?_ ?_
  · exact ⟨0, rfl, rfl, Nat.zero_le _⟩
  intro vi vr L hJ
  obtain ⟨k, rfl, rfl, hkn⟩ := hJ
  try dsimp only [setd, setn, ev, nth, over, cl, eI, eP, eT, setM, setF, List.map, List.append, List.drop, List.take]
  refine K.seq ?_
  refine K.region_lit ?_
  refine K.seq_pure (K.lss rfl rfl) rfl ?_
  dsimp only [setd, setn, ev, nth]
  refine K.seq_nil ?_
  refine K.norm_then ?_
  refine K.seq ?_
  refine K.cond rfl (fun ht15 => ?_) (fun ht15 => ?_)
  · try replace ht15 := of_decide_eq_true ht15
    have hk : k < l.length := by omega
    have hpk := hp _ (K.gt_mem hk)
    have hpt : ∀ x ∈ l.take k, Parts x.1 x.2 := fun x hx => hp x (List.mem_of_mem_take hx)
    have hpt1 : ∀ y ∈ keysT kind base hs s (l.take k) ++ [(mkI s 8 (cuts kind base (l.getD k default).1 (l.getD k default).2 hs))], Bd 0 270001 y := by rw [← keysT_snoc hk]; exact keysT_bd g (fun x hx => hp x (List.mem_of_mem_take hx))
    refine K.skip ?_
    refine K.norm_then ?_
    refine K.seq ?_
    refine K.block ?_
    refine K.seq ?_
    refine K.region_lit ?_
    refine K.seq_ix (M := []) _ hS.sl sl_42 rfl rfl rfl (by omega) rfl ?_
    intro p16 hp16
    try dsimp only [setd, setn, ev, nth, over, cl, eI, eP, eT, List.map, List.append, List.drop, List.take]
    refine K.seq_sil (K.loadA_p ag_27 rfl (hp16.any) rfl) rfl ?_
    try dsimp only [setd, setn, ev, nth, over, cl, eI, eP, eT, List.map, List.append, List.drop, List.take]
    refine K.seq_new (K.alloc zr_27) rfl ?_
    intro b7
    try dsimp only [setd, setn, ev, nth, over, cl, eI, eP, eT, List.map, List.append, List.drop, List.take]
    refine K.seq_st (K.store_all sz_27 rfl rfl rfl rfl (K.rp0)) rfl ?_
    try dsimp only [setd, setn, ev, nth, over, cl, eI, eP, eT, List.map, List.append, List.drop, List.take]
    refine K.seq_nil ?_
    refine K.norm_then ?_
    refine K.seq ?_
    refine K.region_lit ?_
    refine K.seq_sil (K.loadA_p ag_97 rfl (hm.any) rfl) rfl ?_
    try dsimp only [setd, setn, ev, nth, over, cl, eI, eP, eT, List.map, List.append, List.drop, List.take]
    refine K.seq_sil (K.loadA_own ag_27 rfl (K.m0) rfl) rfl ?_
    try dsimp only [setd, setn, ev, nth, over, cl, eI, eP, eT, List.map, List.append, List.drop, List.take]
    refine K.seq_call (K.call_g cal_59 (fun F w hF hw => c59 (u := (l.getD k default).1) (v := (l.getD k default).2) (hH.pass hw) g hpk)) rfl ?_
    try dsimp only [setd, setn, ev, nth, over, cl, eI, eP, eT, List.map, List.append, List.drop, List.take]
    refine K.seq_pure (K.move) rfl ?_
    dsimp only [setd, setn, ev, nth]
    refine K.seq_pure (K.extract rfl rfl) rfl ?_
    dsimp only [setd, setn, ev, nth]
    refine K.seq_pure (K.extract rfl rfl) rfl ?_
    dsimp only [setd, setn, ev, nth]
    refine K.seq_new (K.alloc zr_101) rfl ?_
    intro b8
    try dsimp only [setd, setn, ev, nth, over, cl, eI, eP, eT, List.map, List.append, List.drop, List.take]
    refine K.seq_st (K.store_all sz_101 rfl rfl rfl rfl (K.rp0)) rfl ?_
    try dsimp only [setd, setn, ev, nth, over, cl, eI, eP, eT, List.map, List.append, List.drop, List.take]
    refine K.seq_pure (K.assign) rfl ?_
    dsimp only [setd, setn, ev, nth]
    refine K.seq_nil ?_
    refine K.norm_then ?_
    refine K.seq ?_
    refine K.seq ?_
    refine K.region_lit ?_
    refine K.seq_pure (K.move) rfl ?_
    dsimp only [setd, setn, ev, nth]
    refine K.seq_nil ?_
    refine K.norm_then ?_
    refine K.block ?_
    refine K.loopW [24] [10, 25, 26, 27, 28, 29, 30, 31, 32, 33, 34] (fun vi L => ∃ i : Nat, vi = [.int .i64 (i : Int)] ∧ L = [K.blk b8 101 (a8 (mkI s i (cuts kind base (l.getD k default).1 (l.getD k default).2 hs))), K.blk b7 27 [.int .i64 (l.getD k default).1, .int .i64 (l.getD k default).2], K.mp b11 none ((ddK (keysT kind base hs s (l.take k))).map kv)] ∧ i ≤ 8) (fun vi => 8 - (intOf (K.nth vi 0)).toNat) ?_ ?_
    · exact ⟨0, rfl, by rw [a8_mk0], by omega⟩
    intro vi vr L hJ
    obtain ⟨i, rfl, rfl, hin⟩ := hJ
    try dsimp only [setd, setn, ev, nth, over, cl, eI, eP, eT, setM, setF, List.map, List.append, List.drop, List.take]
    refine K.seq ?_
    refine K.region_lit ?_
    refine K.seq_pure (K.lss rfl rfl) rfl ?_
    dsimp only [setd, setn, ev, nth]
    refine K.seq_nil ?_
    refine K.norm_then ?_
    refine K.seq ?_
    refine K.cond rfl (fun ht25 => ?_) (fun ht25 => ?_)
    · try replace ht25 := of_decide_eq_true ht25
      have hi : i < 8 := by omega
      refine K.skip ?_
      refine K.norm_then ?_
      refine K.seq ?_
      refine K.block ?_
      refine K.seq ?_
      refine K.region_lit ?_
      refine K.seq_pure (K.move) rfl ?_
      dsimp only [setd, setn, ev, nth]
      refine K.seq_pure (K.assign) rfl ?_
      dsimp only [setd, setn, ev, nth]
      refine K.seq_nil ?_
      refine K.norm_then ?_
      refine K.seq ?_
      refine K.region_lit ?_
      refine K.seq_pure (K.move) rfl ?_
      dsimp only [setd, setn, ev, nth]
      refine K.seq_pure (K.move) rfl ?_
      dsimp only [setd, setn, ev, nth]
      refine K.seq_pure (K.shr_int rfl rfl (by omega)) rfl ?_
      dsimp only [setd, setn, ev, nth]
      refine K.seq_pure (K.Pure.eq (K.and_int rfl rfl) (by rw [bit_val hs8 hi])) rfl ?_
      dsimp only [setd, setn, ev, nth]
      refine K.seq_pure (K.eql rfl rfl) rfl ?_
      dsimp only [setd, setn, ev, nth]
      refine K.seq_nil ?_
      refine K.norm_then ?_
      refine K.cond rfl (fun ht31 => ?_) (fun ht31 => ?_)
      · try replace ht31 := of_decide_eq_true ht31
        have hbf : s.testBit i = false := by cases hb : s.testBit i with
          | false => rfl
          | true => rw [hb] at ht31; cases ht31
        refine K.region_lit ?_
        refine K.seq_pure (K.move) rfl ?_
        dsimp only [setd, setn, ev, nth]
        refine K.seq_pure (K.indexAddr_ar ar_101 rfl rfl (by omega) (by omega)) rfl ?_
        try dsimp only [setd, setn, ev, nth, over, cl, eI, eP, eT, List.map, List.append, List.drop, List.take]
        refine K.seq_st (K.store_ix sz_3 rfl rfl (by rw [a8_len]; omega) rfl K.Rep.here) rfl ?_
        try dsimp only [setd, setn, ev, nth, over, cl, eI, eP, eT, List.map, List.append, List.drop, List.take]
        rw [a8_mkF hi hbf]
        try dsimp only [setd, setn, ev, nth, over, cl, eI, eP, eT, List.map, List.append, List.drop, List.take]
        refine K.seq_nil ?_
        refine K.norm_block ?_
        refine K.norm_then ?_
        refine K.region_lit ?_
        refine K.seq_pure (K.add_i64 rfl rfl (by omega)) rfl ?_
        dsimp only [setd, setn, ev, nth]
        refine K.seq_pure (K.move) rfl ?_
        dsimp only [setd, setn, ev, nth]
        refine K.seq_nil ?_
        exact K.round_endW (L'' := [K.blk b8 101 (a8 (mkI s (i + 1) (cuts kind base (l.getD k default).1 (l.getD k default).2 hs))), K.blk b7 27 [.int .i64 (l.getD k default).1, .int .i64 (l.getD k default).2], K.mp b11 none ((ddK (keysT kind base hs s (l.take k))).map kv)]) [.int .i64 ((i : Int) + 1)] ⟨i + 1, rfl, rfl, by omega⟩ (by simp [K.nth, intOf]; omega) (by (repeat (first | exact List.Sublist.refl _ | apply List.Sublist.cons)); done) (by kernel_rfl)
      try replace ht31 := of_decide_eq_false ht31
      have hbt : s.testBit i = true := by cases hb : s.testBit i with
        | true => rfl
        | false => rw [hb] at ht31; exact absurd rfl ht31
      refine K.skip ?_
      refine K.norm_block ?_
      refine K.norm_then ?_
      refine K.region_lit ?_
      refine K.seq_pure (K.add_i64 rfl rfl (by omega)) rfl ?_
      dsimp only [setd, setn, ev, nth]
      refine K.seq_pure (K.move) rfl ?_
      dsimp only [setd, setn, ev, nth]
      refine K.seq_nil ?_
      exact K.round_endW (L'' := [K.blk b8 101 (a8 (mkI s i (cuts kind base (l.getD k default).1 (l.getD k default).2 hs))), K.blk b7 27 [.int .i64 (l.getD k default).1, .int .i64 (l.getD k default).2], K.mp b11 none ((ddK (keysT kind base hs s (l.take k))).map kv)]) [.int .i64 ((i : Int) + 1)] ⟨i + 1, rfl, by rw [a8_mkT hbt], by omega⟩ (by simp [K.nth, intOf]; omega) (by (repeat (first | exact List.Sublist.refl _ | apply List.Sublist.cons)); done) (by kernel_rfl)
    try replace ht25 := of_decide_eq_false ht25
    have hi8 : i = 8 := by omega
    subst hi8
    refine K.exit ?_
    refine K.exit_then ?_
    refine K.exit_then ?_
    refine K.exit_here ?_
    refine K.norm_then ?_
    refine K.draw_take 1 [4, 6] Try_mixed ?_
    refine K.d_pure 0 rfl (K.move) (by kernel_rfl) rfl ?_
    dsimp only [setd, setn, ev, nth]
    refine K.d_mem 1 rfl (K.loadA_own ag_101 rfl (List.Mem.head _) (by rw [a8_len]; rfl)) (fun _ h => List.mem_append_left _ h) (by kernel_rfl) (by kernel_rfl) rfl ?_
    try dsimp only [setd, setn, ev, nth, over, cl, eI, eP, eT, List.map, List.append, List.drop, List.take]
    refine K.d_two 2 4 (by kernel_rfl) ?_ ?_
    · refine K.s_loud 2 rfl (K.lookup_mp mapT rfl rfl (K.m2) (keyOf_kv (bd_mk (g.bdc hpk))) (ks_ok (keysT_bd g hpt))) (fun _ h => List.mem_append_left _ h) (by kernel_rfl) rfl ?_
      rintro c37 _
      try dsimp only [setd, setn, ev, nth, over, cl, eI, eP, eT, List.map, List.append, List.drop, List.take]
      refine K.d_pure 3 rfl (K.add_wrap rfl rfl) (by kernel_rfl) rfl ?_
      dsimp only [setd, setn, ev, nth]
      refine K.d_last 4 rfl (K.mapEntry_mp (ks' := ((ddK (keysT kind base hs s (l.take k) ++ [(mkI s 8 (cuts kind base (l.getD k default).1 (l.getD k default).2 hs))])).map kv)) mapT rfl rfl (keyOf_kv (bd_mk (g.bdc hpk))) (ks_ok (keysT_bd g hpt)) (ks_ins keysT_len mkI_len) (fun _ => K.rp2)) rfl (by kernel_rfl) rfl ?_
      rintro ⟨v39, n39⟩ _
      try dsimp only [setd, setn, ev, nth, over, cl, eI, eP, eT, List.map, List.append, List.drop, List.take]
      refine K.d_pure 5 rfl (K.extract rfl rfl) (by kernel_rfl) rfl ?_
      dsimp only [setd, setn, ev, nth]
      refine K.d_last 6 rfl (K.entryStore_mp rfl rfl rfl (K.rp2)) rfl (by kernel_rfl) rfl ?_
      intro _ _
      try dsimp only [setd, setn, ev, nth, over, cl, eI, eP, eT, List.map, List.append, List.drop, List.take]
      refine K.d_done (by kernel_rfl) ?_
      refine K.norm_block ?_
      refine K.norm_then ?_
      refine K.region_lit ?_
      refine K.seq_pure (K.add_i64 rfl rfl (by omega)) rfl ?_
      dsimp only [setd, setn, ev, nth]
      refine K.seq_pure (K.move) rfl ?_
      dsimp only [setd, setn, ev, nth]
      refine K.seq_nil ?_
      exact K.round_endW (L'' := [K.mp b11 none ((ddK (keysT kind base hs s (l.take k) ++ [(mkI s 8 (cuts kind base (l.getD k default).1 (l.getD k default).2 hs))])).map kv)]) [.int .i64 ((k : Int) + 1)] ⟨k + 1, rfl, by rw [keysT_snoc hk], by omega⟩ (by simp [K.nth, intOf]; omega) (by (repeat (first | exact List.Sublist.refl _ | apply List.Sublist.cons)); done) (by kernel_rfl)
    refine K.s_last 4 rfl (K.mapEntry_mp (ks' := ((ddK (keysT kind base hs s (l.take k) ++ [(mkI s 8 (cuts kind base (l.getD k default).1 (l.getD k default).2 hs))])).map kv)) mapT rfl rfl (keyOf_kv (bd_mk (g.bdc hpk))) (ks_ok (keysT_bd g hpt)) (ks_ins keysT_len mkI_len) (fun _ => K.rp2)) rfl (by kernel_rfl) rfl ?_
    rintro ⟨v39, n39⟩ _
    try dsimp only [setd, setn, ev, nth, over, cl, eI, eP, eT, List.map, List.append, List.drop, List.take]
    refine K.d_pure 5 rfl (K.extract rfl rfl) (by kernel_rfl) rfl ?_
    dsimp only [setd, setn, ev, nth]
    refine K.d_loud 2 rfl (K.lookup_mp mapT rfl rfl (K.m2) (keyOf_kv (bd_mk (g.bdc hpk))) (ks_ok hpt1)) (fun _ h => List.mem_append_left _ h) (by kernel_rfl) rfl ?_
    rintro c37 _
    try dsimp only [setd, setn, ev, nth, over, cl, eI, eP, eT, List.map, List.append, List.drop, List.take]
    refine K.d_pure 3 rfl (K.add_wrap rfl rfl) (by kernel_rfl) rfl ?_
    dsimp only [setd, setn, ev, nth]
    refine K.d_last 6 rfl (K.entryStore_mp rfl rfl rfl (K.rp2)) rfl (by kernel_rfl) rfl ?_
    intro _ _
    try dsimp only [setd, setn, ev, nth, over, cl, eI, eP, eT, List.map, List.append, List.drop, List.take]
    refine K.d_done (by kernel_rfl) ?_
    refine K.norm_block ?_
    refine K.norm_then ?_
    refine K.region_lit ?_
    refine K.seq_pure (K.add_i64 rfl rfl (by omega)) rfl ?_
    dsimp only [setd, setn, ev, nth]
    refine K.seq_pure (K.move) rfl ?_
    dsimp only [setd, setn, ev, nth]
    refine K.seq_nil ?_
    exact K.round_endW (L'' := [K.mp b11 none ((ddK (keysT kind base hs s (l.take k) ++ [(mkI s 8 (cuts kind base (l.getD k default).1 (l.getD k default).2 hs))])).map kv)]) [.int .i64 ((k : Int) + 1)] ⟨k + 1, rfl, by rw [keysT_snoc hk], by omega⟩ (by simp [K.nth, intOf]; omega) (by (repeat (first | exact List.Sublist.refl _ | apply List.Sublist.cons)); done) (by kernel_rfl)
  try replace ht15 := of_decide_eq_false ht15
  refine K.exit ?_
  refine K.exit_then ?_
  refine K.exit_then ?_
  refine K.exit_here ?_
  refine K.norm_then ?_
  refine K.seq ?_
  refine K.region_lit ?_
  refine K.seq_pure (K.move) rfl ?_
  dsimp only [setd, setn, ev, nth]
  refine K.seq_sil (K.len_mp ulM rfl (K.m0)) rfl ?_
  try dsimp only [setd, setn, ev, nth, over, cl, eI, eP, eT, List.map, List.append, List.drop, List.take]
  refine K.seq_sil (K.load1 one_42 rfl (hl.any)) rfl ?_
  try dsimp only [setd, setn, ev, nth, over, cl, eI, eP, eT, List.map, List.append, List.drop, List.take]
  refine K.seq_pure (K.len_sl sl_42 rfl) rfl ?_
  dsimp only [setd, setn, ev, nth]
  refine K.seq_pure (K.eql rfl rfl) rfl ?_
  dsimp only [setd, setn, ev, nth]
  refine K.seq_pure (K.assign) rfl ?_
  dsimp only [setd, setn, ev, nth]
  refine K.seq_nil ?_
  refine K.norm_then ?_
  refine K.ret ?_
  refine K.end_ret (fun w _ => K.res_tmp rfl w) ?_
  have hjj : l.take k = l := take_all (by omega)
  rw [hjj]
  exact K.gives_b rfl (by unfold apB; rw [List.length_map]; simp only [Int.natCast_inj])

end Go.Proofs.Ytafkbioeoklldaa
