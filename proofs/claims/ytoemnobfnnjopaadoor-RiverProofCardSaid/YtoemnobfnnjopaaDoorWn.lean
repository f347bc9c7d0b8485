/-
  Walks of the program's functions, printed by program: what each returns.
  Conditions stand in each theorem.
-/
import Derived.WalkArith
import Derived.Laws.Closers25b
import Derived.Test.YtoemnobfnnjopaaDoorWj
import Derived.Test.YtoemnobfnnjopaaDoorWm
set_option linter.unusedSimpArgs false
set_option linter.unusedVariables false
namespace Go.Proofs.YtoemnobfnnjopaaDoor
open Go.RowKit Go
open Go.K (setd setn ev nth over cl eI eP eT setM setF)
attribute [local irreducible] K.blk K.row
theorem sizeT : Tryd.prog.types.size = 153 := by kernel_rfl
theorem row101 : 101 < Tryd.prog.types.size := by rw [sizeT]; decide
theorem key101 : Tryd.prog.keyTypeAt 10 101 = true := by kernel_rfl
theorem wide101 : (match Tryd.prog.underlying 101 with | some (.array _ _) | some (.struct _) => true | _ => false) = true := by kernel_rfl
theorem ulC : Tryd.prog.underlying 95 = some (.map 101 3) := by kernel_rfl
theorem k2_101 : K.key2 Tryd.prog 101 = true := by kernel_rfl
set_option maxRecDepth 100000 in
theorem mapC : K.MapT Tryd.prog 95 101 := ⟨⟨3, ulC, fun w => by kernel_rfl⟩, deep_law_laid laidOut (m := 10) (by omega) row101 key101 wide101⟩
theorem form101 (x y : Int) : (Value.agg #[.int .i64 x, .int .i64 y]).formed Tryd.prog 101 = true := by kernel_rfl
theorem keyC {x y : Int} (hx : -100000 ≤ x ∧ x ≤ 100000) (hy : -100000 ≤ y ∧ y ≤ 100000) : ∃ q, keyOf Tryd.prog 101 (.agg #[.int .i64 x, .int .i64 y]) = some q :=
  K.keyOf_2 k2_101 (by rw [sizeT]; decide) (form101 x y) (WalkArith.wf_i64 (by omega)) (WalkArith.wf_i64 (by omega))
theorem keyCs {r : List RvT} {lv fx : List Int} {kvs : List (Value × Int)} (g : Good r) (h : KnOk r lv fx kvs) : ∀ p ∈ kvs, ∃ q, keyOf Tryd.prog 101 p.1 = some q := fun p hp => by
  obtain ⟨a, l, e, ha, hl, _⟩ := h p hp
  have := g.n
  rw [e]
  exact keyC (by omega) (by omega)
theorem bl101 (x y : Int) : K.Bl Tryd.prog 101 [(0, .int .i64 x), (1, .int .i64 y)] (.agg #[.int .i64 x, .int .i64 y]) := fun w => by kernel_rfl
/-- What the function for costs does, with so many rows of points left. -/
def Go77 (r : List RvT) (A : Option Addr) (c q : Nat) (lv fx : List Int) (QL QF : Option Addr) (cL cF bm bc f : Nat) (w0 : World) : Prop :=
  ∀ {a : Nat} {low : Int} {kvs : List (Value × Int)} {T : List K.Chunk} {w : World}, K.St w0 (K.mq bm none kvs :: K.blk bc 97 [.pointer (some ⟨q, 0, none⟩), .slice QL lv.length cL, .map (some bm), .slice QF fx.length cF, .int .i64 ((mthS r : Nat) : Int)] :: K.row (.slice QL lv.length cL) 3 1 lv.length (lv.flatMap K.eI) :: K.row (.slice QF fx.length cF) 3 1 fx.length (fx.flatMap K.eI) :: K.blk q 79 (.slice A r.length c :: dcell (drT r)) :: T) w → KnOk r lv fx kvs → a < r.length → -9000 ≤ low ∧ low ≤ 9000 → f = r.length + 1 - dep r a → Calls Tryd.prog 77 [.pointer (some ⟨bc, 0, none⟩), .agg #[.int .i64 (a : Int), .int .i64 low]].toArray w (K.RetU (fun z : Int × List (Value × Int) => z.1 = costF r lv fx f a low ∧ KnOk r lv fx z.2) (fun z => .int .i64 z.1) w0 (fun z => K.mq bm none z.2 :: K.blk bc 97 [.pointer (some ⟨q, 0, none⟩), .slice QL lv.length cL, .map (some bm), .slice QF fx.length cF, .int .i64 ((mthS r : Nat) : Int)] :: K.row (.slice QL lv.length cL) 3 1 lv.length (lv.flatMap K.eI) :: K.row (.slice QF fx.length cF) 3 1 fx.length (fx.flatMap K.eI) :: K.blk q 79 (.slice A r.length c :: dcell (drT r)) :: T))

set_option maxRecDepth 100000 in
set_option maxHeartbeats 4000000 in
theorem c77_s {r : List RvT} {A : Option Addr} {c q : Nat} {w0 : World} (hR : K.Rd w0 A 4 eR r) (g : Good r) {lv fx : List Int} {QL QF : Option Addr} {cL cF bm bc : Nat} (hlv : ∀ x ∈ lv, -4500 ≤ x ∧ x ≤ 9000) (hll : lv.length ≤ 27) (hfl : fx.length ≤ 9) (hqL : lv.length = 0 ∨ ∃ b, QL = some ⟨b, 0, none⟩) (hqF : fx.length = 0 ∨ ∃ b, QF = some ⟨b, 0, none⟩) {f : Nat} (IH : Go77 r A c q lv fx QL QF cL cF bm bc f w0) {a : Nat} {low : Int} {kvs : List (Value × Int)} {T : List K.Chunk} {w : World} (hst : K.St w0 (K.mq bm none kvs :: K.blk bc 97 [.pointer (some ⟨q, 0, none⟩), .slice QL lv.length cL, .map (some bm), .slice QF fx.length cF, .int .i64 ((mthS r : Nat) : Int)] :: K.row (.slice QL lv.length cL) 3 1 lv.length (lv.flatMap K.eI) :: K.row (.slice QF fx.length cF) 3 1 fx.length (fx.flatMap K.eI) :: K.blk q 79 (.slice A r.length c :: dcell (drT r)) :: T) w) (hkn : KnOk r lv fx kvs) (ha : a < r.length) (hlo : -9000 ≤ low ∧ low ≤ 9000) (hf : f + 1 = r.length + 1 - dep r a) :
    Calls Tryd.prog 77 [.pointer (some ⟨bc, 0, none⟩), .agg #[.int .i64 (a : Int), .int .i64 low]].toArray w (K.RetU (fun z : Int × List (Value × Int) => z.1 = costF r lv fx (f + 1) a low ∧ KnOk r lv fx z.2) (fun z => .int .i64 z.1) w0 (fun z => K.mq bm none z.2 :: K.blk bc 97 [.pointer (some ⟨q, 0, none⟩), .slice QL lv.length cL, .map (some bm), .slice QF fx.length cF, .int .i64 ((mthS r : Nat) : Int)] :: K.row (.slice QL lv.length cL) 3 1 lv.length (lv.flatMap K.eI) :: K.row (.slice QF fx.length cF) 3 1 fx.length (fx.flatMap K.eI) :: K.blk q 79 (.slice A r.length c :: dcell (drT r)) :: T)) := by
  have hgn := g.n
  have hda := (dep_is g ha).1
  have hdl := DM_le g ha
  have hpa := g.p a ha
  have hmt := mth_is g
  have hdr := riv_at (f := drT r) (S := .slice A r.length c) (i := a) (k := mthS r) (by omega) (by omega)
  rw [drT_in ha hmt.1, drp_mth g ha] at hdr
  refine K.enterU (args := [.pointer (some ⟨bc, 0, none⟩), .agg #[.int .i64 (a : Int), .int .i64 low]]) Tryd.func77 rfl (n := 132) rfl hst ?_
  simp only [List.replicate, List.cons_append, List.nil_append]
  refine sr ?_
  refine K.seq_new (K.box) rfl ?_
  intro b3
  refine zN ?_
  refine K.permH (L' := _ :: _ :: _ :: _ :: _ :: _ :: _) (List.Perm.trans (List.perm_middle (l₁ := [_])) (List.Perm.cons _ (List.Perm.trans (List.perm_middle (l₁ := [_])) (List.Perm.cons _ (List.Perm.trans (List.perm_middle (l₁ := [_])) (List.Perm.cons _ (List.Perm.trans (List.perm_middle (l₁ := [_])) (List.Perm.cons _ (List.Perm.trans (List.perm_middle (l₁ := [_])) (List.Perm.cons _ (List.Perm.refl _))))))))))) ?_
  refine qa ?_
  refine sn ?_
  refine K.seq ?_
  refine K.seq ?_
  refine K.draw_L [] Tryd_mixed ?_
  refine K.d_pure 0 rfl (K.move) (by kernel_rfl) rfl ?_
  refine zn ?_
  refine K.d_pure 1 rfl (K.nilCheck rfl) (by kernel_rfl) rfl ?_
  refine zn ?_
  refine K.d_pure 2 rfl (K.fieldAddr_lit fo_97_2 rfl) (by kernel_rfl) rfl ?_
  refine zn ?_
  refine K.d_mem 3 rfl (K.load1_own one_95 rfl (K.m1) rfl) (fun _ h => h) (by kernel_rfl) (by kernel_rfl) rfl ?_
  refine zN ?_
  refine K.d_mem 4 rfl (K.loadA_own ag_101 rfl (K.m5) rfl) (fun _ h => h) (by kernel_rfl) (by kernel_rfl) rfl ?_
  refine zN ?_
  refine K.d_loud 5 rfl (K.lookupOk_mq mapC rfl rfl (K.m0) (keyC (by omega) (by omega)) (keyCs g hkn)) (fun _ h => h) (by kernel_rfl) rfl ?_
  rintro ⟨n21, ok21⟩ hn21
  refine zN ?_
  refine K.d_pure 6 rfl (K.move) (by kernel_rfl) rfl ?_
  refine zn ?_
  refine K.d_pure 7 rfl (K.extract rfl rfl) (by kernel_rfl) rfl ?_
  refine zn ?_
  refine K.d_pure 8 rfl (K.extract rfl rfl) (by kernel_rfl) rfl ?_
  refine zn ?_
  refine K.d_pure 9 rfl (K.assign) (by kernel_rfl) rfl ?_
  refine zn ?_
  refine K.d_pure 10 rfl (K.assign) (by kernel_rfl) rfl ?_
  refine zn ?_
  refine K.d_done (by kernel_rfl) ?_
  refine K.norm_then ?_
  refine sr ?_
  refine qm ?_
  refine sn ?_
  refine K.cond rfl (fun ht24 => ?_) (fun ht24 => ?_)
  · try replace ht24 := of_decide_eq_true ht24
    have hnv : n21 = costF r lv fx (f + 1) a low := by
      rcases hn21 with ⟨h, _⟩ | ⟨_, h⟩
      · have h1 : ok21 = false := h
        rw [h1] at ht24; cases ht24
      · rw [hf]; exact kn_at hkn h
    refine sr ?_
    refine qm ?_
    refine qa ?_
    refine sn ?_
    refine K.ret ?_
    refine K.ret_then ?_
    refine K.end_ret (fun w _ => K.res_tmp rfl w) ?_
    exact K.retsU (n21, kvs) ⟨hnv, hkn⟩ rfl ((List.Sublist.cons_cons _ (List.Sublist.cons_cons _ (List.Sublist.cons_cons _ (List.Sublist.cons_cons _ (List.Sublist.cons_cons _ (List.Sublist.cons _ (List.Sublist.refl _))))))))
  try replace ht24 := of_decide_eq_false ht24
  refine K.skip ?_
  refine K.norm_then ?_
  refine sr ?_
  refine qa ?_
  refine sn ?_
  refine K.seq ?_
  refine sr ?_
  refine qm ?_
  refine qp (K.nilCheck rfl) ?_
  refine qp (K.fieldAddr_lit fo_97_1 rfl) ?_
  refine K.seq_sil (K.load1_own one_26 rfl (K.m1) rfl) rfl ?_
  refine zN ?_
  refine qp (K.len_sl sl_26 rfl) ?_
  refine qm ?_
  refine sn ?_
  refine K.block ?_
  refine K.loopW [7, 31] [9, 10, 11, 12, 13, 14, 32, 33, 34, 35, 36, 37, 38, 39, 40, 41, 42, 43, 44, 45, 46, 47, 48, 49, 50, 51, 52, 53, 54, 55, 56, 57, 58, 59, 60, 61, 62, 63, 64, 65, 66, 67, 68, 69, 70, 71, 72, 73, 74, 75, 76, 77, 78, 79, 80, 81, 82, 83, 84, 85, 86, 87, 88, 89, 90, 91, 92, 93, 94, 95, 96, 97, 98, 99, 100, 101, 102, 103, 104, 105, 106, 107, 108, 109, 110, 111, 112, 113, 114, 115, 116, 117, 118, 119, 120, 121, 122, 123, 124, 125, 126] (fun vi L => ∃ (j : Nat) (kvs1 : List (Value × Int)), vi = [.int .i64 (minF (costF r lv fx f) r lv fx a low j), .int .i64 (j : Int)] ∧ L = K.mq bm none kvs1 :: K.blk bc 97 [.pointer (some ⟨q, 0, none⟩), .slice QL lv.length cL, .map (some bm), .slice QF fx.length cF, .int .i64 ((mthS r : Nat) : Int)] :: K.row (.slice QL lv.length cL) 3 1 lv.length (lv.flatMap K.eI) :: K.row (.slice QF fx.length cF) 3 1 fx.length (fx.flatMap K.eI) :: K.blk q 79 (.slice A r.length c :: dcell (drT r)) :: K.blk b3 101 [.int .i64 (a : Int), .int .i64 low] :: T ∧ KnOk r lv fx kvs1 ∧ j ≤ lv.length) (fun vi => lv.length - (intOf (K.nth vi 1)).toNat) ?_ ?_
  · exact ⟨0, kvs, rfl, rfl, hkn, Nat.zero_le _⟩
  intro vi vr L hJ
  obtain ⟨j, kvs1, rfl, rfl, hkn1, hjn⟩ := hJ
  try dsimp only [setd, setn, ev, nth, over, cl, eI, eP, eT, eR, setM, setF, List.map, List.append, List.drop, List.take]
  refine sr ?_
  refine qp (K.lss rfl rfl) ?_
  refine sn ?_
  refine K.seq ?_
  refine K.cond rfl (fun ht32 => ?_) (fun ht32 => ?_)
  · try replace ht32 := of_decide_eq_true ht32
    have hj : j < lv.length := by omega
    have hlj := hlv _ (K.gt_mem hj)
    have hmb := minF_bd' (lv := lv) (fx := fx) (low := low) g ha (cost_bd (lv := lv) (fx := fx) g f) j
    refine K.skip ?_
    refine K.norm_then ?_
    refine K.seq ?_
    refine K.block ?_
    refine sr ?_
    refine K.seq_ix (M := [K.row (.slice QL lv.length cL) 3 1 lv.length (lv.flatMap K.eI)]) _ (K.Sl.own (w0 := w0) (t := 3) (c := cL) (e := K.eI) hqL (fun _ => rfl)) sl_26 rfl rfl rfl (by omega) rfl ?_
    intro p33 hp33
    refine zN ?_
    refine K.seq_sil (K.load1 one_3 rfl (hp33.at1 (K.m2))) rfl ?_
    refine zN ?_
    refine qa ?_
    refine sn ?_
    refine K.seq ?_
    refine K.draw_L [] Tryd_mixed ?_
    refine K.d_pure 0 rfl (K.move) (by kernel_rfl) rfl ?_
    refine zn ?_
    refine K.d_pure 1 rfl (K.move) (by kernel_rfl) rfl ?_
    refine zn ?_
    refine K.d_pure 2 rfl (K.nilCheck rfl) (by kernel_rfl) rfl ?_
    refine zn ?_
    refine K.d_pure 3 rfl (K.fieldAddr_lit fo_97_0 rfl) (by kernel_rfl) rfl ?_
    refine zn ?_
    refine K.d_mem 4 rfl (K.load1_own one_65 rfl (K.m1) rfl) (fun _ h => h) (by kernel_rfl) (by kernel_rfl) rfl ?_
    refine zN ?_
    refine K.d_pure 5 rfl (K.fieldAddr_lit fo_101_0 rfl) (by kernel_rfl) rfl ?_
    refine zn ?_
    refine K.d_mem 6 rfl (K.load1_own one_3 rfl (K.m5) rfl) (fun _ h => h) (by kernel_rfl) (by kernel_rfl) rfl ?_
    refine zN ?_
    refine K.d_pure 7 rfl (K.move) (by kernel_rfl) rfl ?_
    refine zn ?_
    refine K.d_pure 8 rfl (K.nilCheck rfl) (by kernel_rfl) rfl ?_
    refine zn ?_
    refine K.d_pure 9 rfl (K.fieldAddr_lit fo_97_4 rfl) (by kernel_rfl) rfl ?_
    refine zn ?_
    refine K.d_mem 10 rfl (K.load1_own one_3 rfl (K.m1) rfl) (fun _ h => h) (by kernel_rfl) (by kernel_rfl) rfl ?_
    refine zN ?_
    refine K.d_pure 11 rfl (K.nilCheck rfl) (by kernel_rfl) rfl ?_
    refine zn ?_
    refine K.d_pure 12 rfl (K.fieldAddr_lit fo_79_1 rfl) (by kernel_rfl) rfl ?_
    refine zn ?_
    refine K.d_pure 13 rfl (K.indexAddr_ar ar_77 rfl rfl (by omega) (by omega)) (by kernel_rfl) rfl ?_
    refine zN ?_
    refine K.d_pure 14 rfl (K.indexAddr_ar ar_76 rfl rfl (by omega) (by omega)) (by kernel_rfl) rfl ?_
    refine zN ?_
    refine K.d_mem 15 rfl (K.load_at one_3 rfl (K.PtrL.own' ((K.m4))) hdr) (fun _ h => h) (by kernel_rfl) (by kernel_rfl) rfl ?_
    refine zN ?_
    refine K.d_pure 16 rfl (K.add_i64 rfl rfl (by omega)) (by kernel_rfl) rfl ?_
    refine zn ?_
    refine K.d_pure 17 rfl (K.assign) (by kernel_rfl) rfl ?_
    refine zn ?_
    refine K.d_done (by kernel_rfl) ?_
    refine K.norm_then ?_
    refine K.seq ?_
    refine K.seq ?_
    refine K.draw_L [] Tryd_mixed ?_
    refine K.d_pure 0 rfl (K.move) (by kernel_rfl) rfl ?_
    refine zn ?_
    refine K.d_pure 1 rfl (K.fieldAddr_lit fo_101_1 rfl) (by kernel_rfl) rfl ?_
    refine zn ?_
    refine K.d_mem 2 rfl (K.load1_own one_3 rfl (K.m5) rfl) (fun _ h => h) (by kernel_rfl) (by kernel_rfl) rfl ?_
    refine zN ?_
    refine K.d_pure 3 rfl (K.lss rfl rfl) (by kernel_rfl) rfl ?_
    refine zn ?_
    refine K.d_pure 4 rfl (K.move) (by kernel_rfl) rfl ?_
    refine zn ?_
    refine K.dsplit 56 rfl (fun hg56 => ?_) (fun hg56 => ?_)
    · try replace hg56 := of_decide_eq_true hg56
      refine K.d_skip 5 rfl (by kernel_rfl) rfl ?_
      refine zN ?_
      refine K.d_skip 6 rfl (by kernel_rfl) rfl ?_
      refine zN ?_
      refine K.d_skip 7 rfl (by kernel_rfl) rfl ?_
      refine zN ?_
      refine K.d_pure 8 rfl (K.pick_t rfl) (by kernel_rfl) rfl ?_
      refine zn ?_
      refine K.d_pure 9 rfl (K.move) (by kernel_rfl) rfl ?_
      refine zn ?_
      refine K.d_skip 10 rfl (by kernel_rfl) rfl ?_
      refine zN ?_
      refine K.d_skip 11 rfl (by kernel_rfl) rfl ?_
      refine zN ?_
      refine K.d_skip 12 rfl (by kernel_rfl) rfl ?_
      refine zN ?_
      refine K.d_skip 13 rfl (by kernel_rfl) rfl ?_
      refine zN ?_
      refine K.d_skip 14 rfl (by kernel_rfl) rfl ?_
      refine zN ?_
      refine K.d_skip 15 rfl (by kernel_rfl) rfl ?_
      refine zN ?_
      refine K.d_skip 16 rfl (by kernel_rfl) rfl ?_
      refine zN ?_
      refine K.d_skip 17 rfl (by kernel_rfl) rfl ?_
      refine zN ?_
      refine K.d_skip 18 rfl (by kernel_rfl) rfl ?_
      refine zN ?_
      refine K.d_skip 19 rfl (by kernel_rfl) rfl ?_
      refine zN ?_
      refine K.d_skip 20 rfl (by kernel_rfl) rfl ?_
      refine zN ?_
      refine K.d_skip 21 rfl (by kernel_rfl) rfl ?_
      refine zN ?_
      refine K.d_skip 22 rfl (by kernel_rfl) rfl ?_
      refine zN ?_
      refine K.d_skip 23 rfl (by kernel_rfl) rfl ?_
      refine zN ?_
      refine K.d_skip 24 rfl (by kernel_rfl) rfl ?_
      refine zN ?_
      refine K.d_skip 25 rfl (by kernel_rfl) rfl ?_
      refine zN ?_
      refine K.d_skip 26 rfl (by kernel_rfl) rfl ?_
      refine zN ?_
      refine K.d_skip 27 rfl (by kernel_rfl) rfl ?_
      refine zN ?_
      refine K.d_skip 28 rfl (by kernel_rfl) rfl ?_
      refine zN ?_
      refine K.d_skip 29 rfl (by kernel_rfl) rfl ?_
      refine zN ?_
      refine K.d_pure 30 rfl (K.pick_t rfl) (by kernel_rfl) rfl ?_
      refine zn ?_
      refine K.d_done (by kernel_rfl) ?_
      refine K.norm_then ?_
      refine K.cond_true rfl ?_
      refine K.exit ?_
      refine K.exit_then ?_
      refine K.exit_here ?_
      refine K.norm_then ?_
      refine K.region_lit ?_
      refine qp (K.add_i64 rfl rfl (by omega)) ?_
      refine qm ?_
      refine K.seq_nil ?_
      have hsk : skipB r fx a low (lv.getD j default) = true := skip_y (.inl hg56)
      have hmn := minF_skip (rec := costF r lv fx f) hsk
      exact K.round_endW (L'' := K.mq bm none kvs1 :: K.blk bc 97 [.pointer (some ⟨q, 0, none⟩), .slice QL lv.length cL, .map (some bm), .slice QF fx.length cF, .int .i64 ((mthS r : Nat) : Int)] :: K.row (.slice QL lv.length cL) 3 1 lv.length (lv.flatMap K.eI) :: K.row (.slice QF fx.length cF) 3 1 fx.length (fx.flatMap K.eI) :: K.blk q 79 (.slice A r.length c :: dcell (drT r)) :: K.blk b3 101 [.int .i64 (a : Int), .int .i64 low] :: T) [.int .i64 (minF (costF r lv fx f) r lv fx a low j), .int .i64 ((j : Int) + 1)] ⟨j + 1, kvs1, by rw [hmn]; rfl, rfl, hkn1, by omega⟩ (by simp [K.nth, intOf]; omega) ((List.Sublist.refl _)) (by kernel_rfl)
    try replace hg56 := of_decide_eq_false hg56
    refine K.d_pure 5 rfl (K.move) (by kernel_rfl) rfl ?_
    refine zn ?_
    refine K.d_new 6 rfl (K.buildSlice (bs1 _)) (fun _ h => h) (by kernel_rfl) rfl ?_
    intro b58
    refine zN ?_
    refine K.d_call 7 rfl (K.call_g cal_46 (fun F w hF hw => c46_1 hw (hF _ (K.m0)))) (fun _ h => K.tl h) (by kernel_rfl) rfl ?_
    refine zN ?_
    refine K.d_pure 8 rfl (K.pick_f rfl) (by kernel_rfl) rfl ?_
    refine zn ?_
    refine K.d_pure 9 rfl (K.move) (by kernel_rfl) rfl ?_
    refine zn ?_
    refine K.dsplit 61 rfl (fun hg61 => ?_) (fun hg61 => ?_)
    · try replace hg61 := of_decide_eq_true hg61
      refine K.d_skip 10 rfl (by kernel_rfl) rfl ?_
      refine zN ?_
      refine K.d_skip 11 rfl (by kernel_rfl) rfl ?_
      refine zN ?_
      refine K.d_skip 12 rfl (by kernel_rfl) rfl ?_
      refine zN ?_
      refine K.d_skip 13 rfl (by kernel_rfl) rfl ?_
      refine zN ?_
      refine K.d_skip 14 rfl (by kernel_rfl) rfl ?_
      refine zN ?_
      refine K.d_skip 15 rfl (by kernel_rfl) rfl ?_
      refine zN ?_
      refine K.d_skip 16 rfl (by kernel_rfl) rfl ?_
      refine zN ?_
      refine K.d_skip 17 rfl (by kernel_rfl) rfl ?_
      refine zN ?_
      refine K.d_skip 18 rfl (by kernel_rfl) rfl ?_
      refine zN ?_
      refine K.d_skip 19 rfl (by kernel_rfl) rfl ?_
      refine zN ?_
      refine K.d_skip 20 rfl (by kernel_rfl) rfl ?_
      refine zN ?_
      refine K.d_skip 21 rfl (by kernel_rfl) rfl ?_
      refine zN ?_
      refine K.d_skip 22 rfl (by kernel_rfl) rfl ?_
      refine zN ?_
      refine K.d_skip 23 rfl (by kernel_rfl) rfl ?_
      refine zN ?_
      refine K.d_skip 24 rfl (by kernel_rfl) rfl ?_
      refine zN ?_
      refine K.d_skip 25 rfl (by kernel_rfl) rfl ?_
      refine zN ?_
      refine K.d_skip 26 rfl (by kernel_rfl) rfl ?_
      refine zN ?_
      refine K.d_skip 27 rfl (by kernel_rfl) rfl ?_
      refine zN ?_
      refine K.d_skip 28 rfl (by kernel_rfl) rfl ?_
      refine zN ?_
      refine K.d_skip 29 rfl (by kernel_rfl) rfl ?_
      refine zN ?_
      refine K.d_pure 30 rfl (K.pick_t rfl) (by kernel_rfl) rfl ?_
      refine zn ?_
      refine K.d_done (by kernel_rfl) ?_
      refine K.norm_then ?_
      refine K.cond_true rfl ?_
      refine K.exit ?_
      refine K.exit_then ?_
      refine K.exit_here ?_
      refine K.norm_then ?_
      refine K.region_lit ?_
      refine qp (K.add_i64 rfl rfl (by omega)) ?_
      refine qm ?_
      refine K.seq_nil ?_
      have hsk : skipB r fx a low (lv.getD j default) = true := skip_y (.inr (.inl hg61))
      have hmn := minF_skip (rec := costF r lv fx f) hsk
      exact K.round_endW (L'' := K.mq bm none kvs1 :: K.blk bc 97 [.pointer (some ⟨q, 0, none⟩), .slice QL lv.length cL, .map (some bm), .slice QF fx.length cF, .int .i64 ((mthS r : Nat) : Int)] :: K.row (.slice QL lv.length cL) 3 1 lv.length (lv.flatMap K.eI) :: K.row (.slice QF fx.length cF) 3 1 fx.length (fx.flatMap K.eI) :: K.blk q 79 (.slice A r.length c :: dcell (drT r)) :: K.blk b3 101 [.int .i64 (a : Int), .int .i64 low] :: T) [.int .i64 (minF (costF r lv fx f) r lv fx a low j), .int .i64 ((j : Int) + 1)] ⟨j + 1, kvs1, by rw [hmn]; rfl, rfl, hkn1, by omega⟩ (by simp [K.nth, intOf]; omega) ((List.Sublist.cons _ (List.Sublist.refl _))) (by kernel_rfl)
    try replace hg61 := of_decide_eq_false hg61
    refine K.d_pure 10 rfl (K.fieldAddr_lit fo_101_0 rfl) (by kernel_rfl) rfl ?_
    refine zn ?_
    refine K.d_mem 11 rfl (K.load1_own one_3 rfl (K.m5) rfl) (fun _ h => K.tl h) (by kernel_rfl) (by kernel_rfl) rfl ?_
    refine zN ?_
    refine K.d_pure 12 rfl (K.move) (by kernel_rfl) rfl ?_
    refine zn ?_
    refine K.d_pure 13 rfl (K.nilCheck rfl) (by kernel_rfl) rfl ?_
    refine zn ?_
    refine K.d_pure 14 rfl (K.fieldAddr_lit fo_97_3 rfl) (by kernel_rfl) rfl ?_
    refine zn ?_
    refine K.d_mem 15 rfl (K.load1_own one_26 rfl (K.m1) rfl) (fun _ h => K.tl h) (by kernel_rfl) (by kernel_rfl) rfl ?_
    refine zN ?_
    refine K.d_pure 16 rfl (K.len_sl sl_26 rfl) (by kernel_rfl) rfl ?_
    refine zn ?_
    refine K.d_pure 17 rfl (K.lss rfl rfl) (by kernel_rfl) rfl ?_
    refine zn ?_
    refine K.d_pure 18 rfl (K.move) (by kernel_rfl) rfl ?_
    refine zn ?_
    refine K.dsplit 70 rfl (fun hg70 => ?_) (fun hg70 => ?_)
    · try replace hg70 := of_decide_eq_true hg70
      have hafx : a < fx.length := by omega
      refine K.d_pure 19 rfl (K.move) (by kernel_rfl) rfl ?_
      refine zn ?_
      refine K.d_pure 20 rfl (K.nilCheck rfl) (by kernel_rfl) rfl ?_
      refine zn ?_
      refine K.d_pure 21 rfl (K.fieldAddr_lit fo_97_3 rfl) (by kernel_rfl) rfl ?_
      refine zn ?_
      refine K.d_mem 22 rfl (K.load1_own one_26 rfl (K.m1) rfl) (fun _ h => K.tl h) (by kernel_rfl) (by kernel_rfl) rfl ?_
      refine zN ?_
      refine K.d_pure 23 rfl (K.fieldAddr_lit fo_101_0 rfl) (by kernel_rfl) rfl ?_
      refine zn ?_
      refine K.d_mem 24 rfl (K.load1_own one_3 rfl (K.m5) rfl) (fun _ h => K.tl h) (by kernel_rfl) (by kernel_rfl) rfl ?_
      refine zN ?_
      refine K.d_ix (M := [K.row (.slice QF fx.length cF) 3 1 fx.length (fx.flatMap K.eI)]) 25 a rfl (K.Sl.own (w0 := w0) (t := 3) (c := cF) (e := K.eI) hqF (fun _ => rfl)) sl_26 rfl rfl (by omega) (by omega) (by kernel_rfl) rfl ?_
      intro p77 hp77
      refine zN ?_
      refine K.d_mem 26 rfl (K.load1 one_3 rfl (hp77.at1 (K.m3))) (fun _ h => K.tl h) (by kernel_rfl) (by kernel_rfl) rfl ?_
      refine zN ?_
      refine K.d_pure 27 rfl (K.move) (by kernel_rfl) rfl ?_
      refine zn ?_
      refine K.d_pure 28 rfl (K.neq rfl rfl) (by kernel_rfl) rfl ?_
      refine zn ?_
      refine K.d_pure 29 rfl (K.pick_t rfl) (by kernel_rfl) rfl ?_
      refine zn ?_
      refine K.d_pure 30 rfl (K.pick_f rfl) (by kernel_rfl) rfl ?_
      refine zn ?_
      refine K.d_done (by kernel_rfl) ?_
      refine K.norm_then ?_
      refine K.cond rfl (fun ht82 => ?_) (fun ht82 => ?_)
      · try replace ht82 := of_decide_eq_true ht82
        refine K.exit ?_
        refine K.exit_then ?_
        refine K.exit_here ?_
        refine K.norm_then ?_
        refine K.region_lit ?_
        refine qp (K.add_i64 rfl rfl (by omega)) ?_
        refine qm ?_
        refine K.seq_nil ?_
        have hsk : skipB r fx a low (lv.getD j default) = true := skip_y (.inr (.inr ⟨by omega, ht82⟩))
        have hmn := minF_skip (rec := costF r lv fx f) hsk
        exact K.round_endW (L'' := K.mq bm none kvs1 :: K.blk bc 97 [.pointer (some ⟨q, 0, none⟩), .slice QL lv.length cL, .map (some bm), .slice QF fx.length cF, .int .i64 ((mthS r : Nat) : Int)] :: K.row (.slice QL lv.length cL) 3 1 lv.length (lv.flatMap K.eI) :: K.row (.slice QF fx.length cF) 3 1 fx.length (fx.flatMap K.eI) :: K.blk q 79 (.slice A r.length c :: dcell (drT r)) :: K.blk b3 101 [.int .i64 (a : Int), .int .i64 low] :: T) [.int .i64 (minF (costF r lv fx f) r lv fx a low j), .int .i64 ((j : Int) + 1)] ⟨j + 1, kvs1, by rw [hmn]; rfl, rfl, hkn1, by omega⟩ (by simp [K.nth, intOf]; omega) ((List.Sublist.cons _ (List.Sublist.refl _))) (by kernel_rfl)
      try replace ht82 := of_decide_eq_false ht82
      have hskn : skipB r fx a low (lv.getD j default) = false := skip_n hg56 (Decidable.not_not.1 hg61) (fun _ => Decidable.not_not.1 ht82)
      have hsn := skip_no hskn
      refine K.skip ?_
      refine K.norm_then ?_
      refine K.seq ?_
      refine K.draw_L [] Tryd_mixed ?_
      refine K.d_pure 0 rfl (K.move) (by kernel_rfl) rfl ?_
      refine zn ?_
      refine K.d_pure 1 rfl (K.nilCheck rfl) (by kernel_rfl) rfl ?_
      refine zn ?_
      refine K.d_pure 2 rfl (K.fieldAddr_lit fo_97_0 rfl) (by kernel_rfl) rfl ?_
      refine zn ?_
      refine K.d_mem 3 rfl (K.load1_own one_65 rfl (K.m2) rfl) (fun _ h => h) (by kernel_rfl) (by kernel_rfl) rfl ?_
      refine zN ?_
      refine K.d_pure 4 rfl (K.fieldAddr_lit fo_101_0 rfl) (by kernel_rfl) rfl ?_
      refine zn ?_
      refine K.d_mem 5 rfl (K.load1_own one_3 rfl (K.m6) rfl) (fun _ h => h) (by kernel_rfl) (by kernel_rfl) rfl ?_
      refine zN ?_
      refine K.d_call 6 rfl (K.call_g cal_54 (fun F w hF hw => c54 (K.PtrL.now hw (hF _ (K.m5))) (K.blk_lt hw (hF _ (K.m5))) (hR.pass hw) ha)) (fun _ h => h) (by kernel_rfl) rfl ?_
      refine zN ?_
      refine K.d_pure 7 rfl (K.assign) (by kernel_rfl) rfl ?_
      refine zn ?_
      refine K.d_done (by kernel_rfl) ?_
      refine K.norm_then ?_
      refine sr ?_
      iterate 2 refine qm ?_
      refine qp (K.sub_i64 rfl rfl (by omega)) ?_
      iterate 2 refine qm ?_
      refine qp (K.sub_i64 rfl rfl (by omega)) ?_
      refine qp (K.Pure.eq (K.max_int rfl rfl) (show _ = Value.int .i64 (sumF (costF r lv fx f) r a (lv.getD j default) 0) from rfl)) ?_
      refine qa ?_
      refine sn ?_
      refine K.seq ?_
      refine K.seq ?_
      refine K.weak (List.Sublist.cons _ (List.Sublist.cons_cons _ (List.Sublist.cons_cons _ (List.Sublist.cons_cons _ (List.Sublist.cons_cons _ (List.Sublist.cons_cons _ (List.Sublist.cons_cons _ (List.Sublist.refl _)))))))) ?_
      refine K.region_lit ?_
      refine qm ?_
      refine qp (K.nilCheck rfl) ?_
      refine qp (K.fieldAddr_lit fo_97_0 rfl) ?_
      refine K.seq_sil (K.load1_own one_65 rfl (K.m1) rfl) rfl ?_
      refine zN ?_
      refine qp (K.nilCheck rfl) ?_
      refine qp (K.fieldAddr_lit fo_79_0 rfl) ?_
      refine K.seq_sil (K.load1_own one_75 rfl (K.m4) rfl) rfl ?_
      refine zN ?_
      refine qp (K.len_sl sl_75 rfl) ?_
      refine qm ?_
      refine sn ?_
      refine K.block ?_
      refine K.loopW [12, 105] [13, 14, 106, 107, 108, 109, 110, 111, 112, 113, 114, 115, 116, 117, 118, 119, 120, 121, 122] (fun vi L => ∃ (k : Nat) (kvs2 : List (Value × Int)), vi = [.int .i64 (sumF (costF r lv fx f) r a (lv.getD j default) k), .int .i64 (k : Int)] ∧ L = K.mq bm none kvs2 :: K.blk bc 97 [.pointer (some ⟨q, 0, none⟩), .slice QL lv.length cL, .map (some bm), .slice QF fx.length cF, .int .i64 ((mthS r : Nat) : Int)] :: K.row (.slice QL lv.length cL) 3 1 lv.length (lv.flatMap K.eI) :: K.row (.slice QF fx.length cF) 3 1 fx.length (fx.flatMap K.eI) :: K.blk q 79 (.slice A r.length c :: dcell (drT r)) :: K.blk b3 101 [.int .i64 (a : Int), .int .i64 low] :: T ∧ KnOk r lv fx kvs2 ∧ k ≤ r.length) (fun vi => r.length - (intOf (K.nth vi 1)).toNat) ?_ ?_
      · exact ⟨0, kvs1, rfl, rfl, hkn1, Nat.zero_le _⟩
      intro vi vr L hJ
      obtain ⟨k, kvs2, rfl, rfl, hkn2, hkn0⟩ := hJ
      try dsimp only [setd, setn, ev, nth, over, cl, eI, eP, eT, eR, setM, setF, List.map, List.append, List.drop, List.take]
      refine sr ?_
      refine qp (K.lss rfl rfl) ?_
      refine sn ?_
      refine K.seq ?_
      refine K.cond rfl (fun ht106 => ?_) (fun ht106 => ?_)
      · try replace ht106 := of_decide_eq_true ht106
        have hk : k < r.length := by omega
        have hsb := sumF_bd' (l := (lv.getD j default)) (cost_bd (lv := lv) (fx := fx) g f) (ownC_bd g ha hsn.2.1) k hkn0
        have hcb := cost_bd (lv := lv) (fx := fx) g f k hk (lv.getD j default)
        unfold neverS at hsb hcb
        refine K.skip ?_
        refine K.norm_then ?_
        refine K.seq ?_
        refine K.block ?_
        refine sr ?_
        refine qm ?_
        refine K.seq_ix (M := []) _ hR.sl sl_75 rfl rfl rfl (by omega) rfl ?_
        intro p108 hp108
        refine zN ?_
        refine K.seq_sil (K.loadA_p ag_44 rfl (hp108.any) rfl) rfl ?_
        refine zN ?_
        refine K.seq_new (K.alloc zr_44) rfl ?_
        intro b14
        refine zN ?_
        refine qa ?_
        refine K.seq_st (K.store_all sz_44 rfl rfl rfl rfl (K.rp0)) rfl ?_
        refine zN ?_
        refine sn ?_
        refine sr ?_
        refine qp (K.fieldAddr_lit fo_44_1 rfl) ?_
        refine K.seq_sil (K.load1_own one_3 rfl (K.m0) rfl) rfl ?_
        refine zN ?_
        refine qp (K.fieldAddr_lit fo_101_0 rfl) ?_
        refine K.seq_sil (K.load1_own one_3 rfl (K.m6) rfl) rfl ?_
        refine zN ?_
        refine qp (K.eql rfl rfl) ?_
        refine sn ?_
        refine K.cond rfl (fun ht114 => ?_) (fun ht114 => ?_)
        · try replace ht114 := of_decide_eq_true ht114
          have hdk : dep r k = dep r a + 1 := by
            have hm : (r.getD k default).dn ≠ -1 := by omega
            have h2 := dep_d g hk hm
            rw [ht114, Int.toNat_natCast] at h2
            exact h2
          refine K.weak (List.Sublist.cons _ (List.Sublist.cons_cons _ (List.Sublist.cons_cons _ (List.Sublist.cons_cons _ (List.Sublist.cons_cons _ (List.Sublist.cons_cons _ (List.Sublist.cons_cons _ (List.Sublist.refl _)))))))) ?_
          refine K.region_lit ?_
          iterate 4 refine qm ?_
          refine K.seq_pure (K.build (bl101 _ _)) rfl ?_
          refine zN ?_
          refine K.seq_upd (K.callU_f cal_77 (fun w hw => IH (a := k) (low := (lv.getD j default)) (T := K.blk b3 101 [.int .i64 (a : Int), .int .i64 low] :: T) hw hkn2 hk (by omega) (by omega))) rfl ?_
          rintro z120 hz120
          refine zN ?_
          obtain ⟨hz1, hz2⟩ := hz120
          have hz120 : z120.1 = costF r lv fx f k (lv.getD j default) ∧ KnOk r lv fx z120.2 := ⟨hz1, hz2⟩
          rw [hz1]
          refine zN ?_
          refine qp (K.add_i64 rfl rfl (by omega)) ?_
          refine qa ?_
          refine K.seq_nil ?_
          refine K.norm_block ?_
          refine K.norm_then ?_
          refine K.region_lit ?_
          refine qp (K.add_i64 rfl rfl (by omega)) ?_
          refine qm ?_
          refine K.seq_nil ?_
          have hsm := sumF_yes (rec := costF r lv fx f) (l := (lv.getD j default)) ht114
          exact K.round_endW (L'' := K.mq bm none z120.2 :: K.blk bc 97 [.pointer (some ⟨q, 0, none⟩), .slice QL lv.length cL, .map (some bm), .slice QF fx.length cF, .int .i64 ((mthS r : Nat) : Int)] :: K.row (.slice QL lv.length cL) 3 1 lv.length (lv.flatMap K.eI) :: K.row (.slice QF fx.length cF) 3 1 fx.length (fx.flatMap K.eI) :: K.blk q 79 (.slice A r.length c :: dcell (drT r)) :: K.blk b3 101 [.int .i64 (a : Int), .int .i64 low] :: T) [.int .i64 (sumF (costF r lv fx f) r a (lv.getD j default) k + costF r lv fx f k (lv.getD j default)), .int .i64 ((k : Int) + 1)] ⟨k + 1, z120.2, by rw [hsm]; rfl, rfl, hz120.2, by omega⟩ (by simp [K.nth, intOf]; omega) ((List.Sublist.refl _)) (by kernel_rfl)
        try replace ht114 := of_decide_eq_false ht114
        refine K.skip ?_
        refine K.norm_block ?_
        refine K.norm_then ?_
        refine K.region_lit ?_
        refine qp (K.add_i64 rfl rfl (by omega)) ?_
        refine qm ?_
        refine K.seq_nil ?_
        have hsm := sumF_no (rec := costF r lv fx f) (l := (lv.getD j default)) ht114
        exact K.round_endW (L'' := K.mq bm none kvs2 :: K.blk bc 97 [.pointer (some ⟨q, 0, none⟩), .slice QL lv.length cL, .map (some bm), .slice QF fx.length cF, .int .i64 ((mthS r : Nat) : Int)] :: K.row (.slice QL lv.length cL) 3 1 lv.length (lv.flatMap K.eI) :: K.row (.slice QF fx.length cF) 3 1 fx.length (fx.flatMap K.eI) :: K.blk q 79 (.slice A r.length c :: dcell (drT r)) :: K.blk b3 101 [.int .i64 (a : Int), .int .i64 low] :: T) [.int .i64 (sumF (costF r lv fx f) r a (lv.getD j default) k), .int .i64 ((k : Int) + 1)] ⟨k + 1, kvs2, by rw [hsm]; rfl, rfl, hkn2, by omega⟩ (by simp [K.nth, intOf]; omega) ((List.Sublist.cons _ (List.Sublist.refl _))) (by kernel_rfl)
      try replace ht106 := of_decide_eq_false ht106
      refine K.exit ?_
      refine K.exit_then ?_
      refine K.exit_then ?_
      refine K.exit_here ?_
      refine K.norm_then ?_
      refine K.region_lit ?_
      iterate 2 refine qm ?_
      refine qp (K.min_int rfl rfl) ?_
      refine qa ?_
      refine K.seq_nil ?_
      refine K.norm_block ?_
      refine K.norm_then ?_
      refine K.region_lit ?_
      refine qp (K.add_i64 rfl rfl (by omega)) ?_
      refine qm ?_
      refine K.seq_nil ?_
      have e0 : k = r.length := by omega
      subst e0
      have hmn := minF_more (rec := costF r lv fx f) hskn
      exact K.round_endW (L'' := K.mq bm none kvs2 :: K.blk bc 97 [.pointer (some ⟨q, 0, none⟩), .slice QL lv.length cL, .map (some bm), .slice QF fx.length cF, .int .i64 ((mthS r : Nat) : Int)] :: K.row (.slice QL lv.length cL) 3 1 lv.length (lv.flatMap K.eI) :: K.row (.slice QF fx.length cF) 3 1 fx.length (fx.flatMap K.eI) :: K.blk q 79 (.slice A r.length c :: dcell (drT r)) :: K.blk b3 101 [.int .i64 (a : Int), .int .i64 low] :: T) [.int .i64 (min (minF (costF r lv fx f) r lv fx a low j) (sumF (costF r lv fx f) r a (lv.getD j default) r.length)), .int .i64 ((j : Int) + 1)] ⟨j + 1, kvs2, by rw [hmn]; rfl, rfl, hkn2, by omega⟩ (by simp [K.nth, intOf]; omega) ((List.Sublist.refl _)) (by kernel_rfl)
    try replace hg70 := of_decide_eq_false hg70
    have hskn : skipB r fx a low (lv.getD j default) = false := skip_n hg56 (Decidable.not_not.1 hg61) (fun h => absurd (by omega) hg70)
    have hsn := skip_no hskn
    refine K.d_skip 19 rfl (by kernel_rfl) rfl ?_
    refine zN ?_
    refine K.d_skip 20 rfl (by kernel_rfl) rfl ?_
    refine zN ?_
    refine K.d_skip 21 rfl (by kernel_rfl) rfl ?_
    refine zN ?_
    refine K.d_skip 22 rfl (by kernel_rfl) rfl ?_
    refine zN ?_
    refine K.d_skip 23 rfl (by kernel_rfl) rfl ?_
    refine zN ?_
    refine K.d_skip 24 rfl (by kernel_rfl) rfl ?_
    refine zN ?_
    refine K.d_skip 25 rfl (by kernel_rfl) rfl ?_
    refine zN ?_
    refine K.d_skip 26 rfl (by kernel_rfl) rfl ?_
    refine zN ?_
    refine K.d_skip 27 rfl (by kernel_rfl) rfl ?_
    refine zN ?_
    refine K.d_skip 28 rfl (by kernel_rfl) rfl ?_
    refine zN ?_
    refine K.d_pure 29 rfl (K.pick_f rfl) (by kernel_rfl) rfl ?_
    refine zn ?_
    refine K.d_pure 30 rfl (K.pick_f rfl) (by kernel_rfl) rfl ?_
    refine zn ?_
    refine K.d_done (by kernel_rfl) ?_
    refine K.norm_then ?_
    refine K.cond_false rfl ?_
    refine K.skip ?_
    refine K.norm_then ?_
    refine K.seq ?_
    refine K.draw_L [] Tryd_mixed ?_
    refine K.d_pure 0 rfl (K.move) (by kernel_rfl) rfl ?_
    refine zn ?_
    refine K.d_pure 1 rfl (K.nilCheck rfl) (by kernel_rfl) rfl ?_
    refine zn ?_
    refine K.d_pure 2 rfl (K.fieldAddr_lit fo_97_0 rfl) (by kernel_rfl) rfl ?_
    refine zn ?_
    refine K.d_mem 3 rfl (K.load1_own one_65 rfl (K.m2) rfl) (fun _ h => h) (by kernel_rfl) (by kernel_rfl) rfl ?_
    refine zN ?_
    refine K.d_pure 4 rfl (K.fieldAddr_lit fo_101_0 rfl) (by kernel_rfl) rfl ?_
    refine zn ?_
    refine K.d_mem 5 rfl (K.load1_own one_3 rfl (K.m6) rfl) (fun _ h => h) (by kernel_rfl) (by kernel_rfl) rfl ?_
    refine zN ?_
    refine K.d_call 6 rfl (K.call_g cal_54 (fun F w hF hw => c54 (K.PtrL.now hw (hF _ (K.m5))) (K.blk_lt hw (hF _ (K.m5))) (hR.pass hw) ha)) (fun _ h => h) (by kernel_rfl) rfl ?_
    refine zN ?_
    refine K.d_pure 7 rfl (K.assign) (by kernel_rfl) rfl ?_
    refine zn ?_
    refine K.d_done (by kernel_rfl) ?_
    refine K.norm_then ?_
    refine sr ?_
    iterate 2 refine qm ?_
    refine qp (K.sub_i64 rfl rfl (by omega)) ?_
    iterate 2 refine qm ?_
    refine qp (K.sub_i64 rfl rfl (by omega)) ?_
    refine qp (K.Pure.eq (K.max_int rfl rfl) (show _ = Value.int .i64 (sumF (costF r lv fx f) r a (lv.getD j default) 0) from rfl)) ?_
    refine qa ?_
    refine sn ?_
    refine K.seq ?_
    refine K.seq ?_
    refine K.weak (List.Sublist.cons _ (List.Sublist.cons_cons _ (List.Sublist.cons_cons _ (List.Sublist.cons_cons _ (List.Sublist.cons_cons _ (List.Sublist.cons_cons _ (List.Sublist.cons_cons _ (List.Sublist.refl _)))))))) ?_
    refine K.region_lit ?_
    refine qm ?_
    refine qp (K.nilCheck rfl) ?_
    refine qp (K.fieldAddr_lit fo_97_0 rfl) ?_
    refine K.seq_sil (K.load1_own one_65 rfl (K.m1) rfl) rfl ?_
    refine zN ?_
    refine qp (K.nilCheck rfl) ?_
    refine qp (K.fieldAddr_lit fo_79_0 rfl) ?_
    refine K.seq_sil (K.load1_own one_75 rfl (K.m4) rfl) rfl ?_
    refine zN ?_
    refine qp (K.len_sl sl_75 rfl) ?_
    refine qm ?_
    refine sn ?_
    refine K.block ?_
    refine K.loopW [12, 105] [13, 14, 106, 107, 108, 109, 110, 111, 112, 113, 114, 115, 116, 117, 118, 119, 120, 121, 122] (fun vi L => ∃ (k : Nat) (kvs2 : List (Value × Int)), vi = [.int .i64 (sumF (costF r lv fx f) r a (lv.getD j default) k), .int .i64 (k : Int)] ∧ L = K.mq bm none kvs2 :: K.blk bc 97 [.pointer (some ⟨q, 0, none⟩), .slice QL lv.length cL, .map (some bm), .slice QF fx.length cF, .int .i64 ((mthS r : Nat) : Int)] :: K.row (.slice QL lv.length cL) 3 1 lv.length (lv.flatMap K.eI) :: K.row (.slice QF fx.length cF) 3 1 fx.length (fx.flatMap K.eI) :: K.blk q 79 (.slice A r.length c :: dcell (drT r)) :: K.blk b3 101 [.int .i64 (a : Int), .int .i64 low] :: T ∧ KnOk r lv fx kvs2 ∧ k ≤ r.length) (fun vi => r.length - (intOf (K.nth vi 1)).toNat) ?_ ?_
    · exact ⟨0, kvs1, rfl, rfl, hkn1, Nat.zero_le _⟩
    intro vi vr L hJ
    obtain ⟨k, kvs2, rfl, rfl, hkn2, hkn0⟩ := hJ
    try dsimp only [setd, setn, ev, nth, over, cl, eI, eP, eT, eR, setM, setF, List.map, List.append, List.drop, List.take]
    refine sr ?_
    refine qp (K.lss rfl rfl) ?_
    refine sn ?_
    refine K.seq ?_
    refine K.cond rfl (fun ht106 => ?_) (fun ht106 => ?_)
    · try replace ht106 := of_decide_eq_true ht106
      have hk : k < r.length := by omega
      have hsb := sumF_bd' (l := (lv.getD j default)) (cost_bd (lv := lv) (fx := fx) g f) (ownC_bd g ha hsn.2.1) k hkn0
      have hcb := cost_bd (lv := lv) (fx := fx) g f k hk (lv.getD j default)
      unfold neverS at hsb hcb
      refine K.skip ?_
      refine K.norm_then ?_
      refine K.seq ?_
      refine K.block ?_
      refine sr ?_
      refine qm ?_
      refine K.seq_ix (M := []) _ hR.sl sl_75 rfl rfl rfl (by omega) rfl ?_
      intro p108 hp108
      refine zN ?_
      refine K.seq_sil (K.loadA_p ag_44 rfl (hp108.any) rfl) rfl ?_
      refine zN ?_
      refine K.seq_new (K.alloc zr_44) rfl ?_
      intro b14
      refine zN ?_
      refine qa ?_
      refine K.seq_st (K.store_all sz_44 rfl rfl rfl rfl (K.rp0)) rfl ?_
      refine zN ?_
      refine sn ?_
      refine sr ?_
      refine qp (K.fieldAddr_lit fo_44_1 rfl) ?_
      refine K.seq_sil (K.load1_own one_3 rfl (K.m0) rfl) rfl ?_
      refine zN ?_
      refine qp (K.fieldAddr_lit fo_101_0 rfl) ?_
      refine K.seq_sil (K.load1_own one_3 rfl (K.m6) rfl) rfl ?_
      refine zN ?_
      refine qp (K.eql rfl rfl) ?_
      refine sn ?_
      refine K.cond rfl (fun ht114 => ?_) (fun ht114 => ?_)
      · try replace ht114 := of_decide_eq_true ht114
        have hdk : dep r k = dep r a + 1 := by
          have hm : (r.getD k default).dn ≠ -1 := by omega
          have h2 := dep_d g hk hm
          rw [ht114, Int.toNat_natCast] at h2
          exact h2
        refine K.weak (List.Sublist.cons _ (List.Sublist.cons_cons _ (List.Sublist.cons_cons _ (List.Sublist.cons_cons _ (List.Sublist.cons_cons _ (List.Sublist.cons_cons _ (List.Sublist.cons_cons _ (List.Sublist.refl _)))))))) ?_
        refine K.region_lit ?_
        iterate 4 refine qm ?_
        refine K.seq_pure (K.build (bl101 _ _)) rfl ?_
        refine zN ?_
        refine K.seq_upd (K.callU_f cal_77 (fun w hw => IH (a := k) (low := (lv.getD j default)) (T := K.blk b3 101 [.int .i64 (a : Int), .int .i64 low] :: T) hw hkn2 hk (by omega) (by omega))) rfl ?_
        rintro z120 hz120
        refine zN ?_
        obtain ⟨hz1, hz2⟩ := hz120
        have hz120 : z120.1 = costF r lv fx f k (lv.getD j default) ∧ KnOk r lv fx z120.2 := ⟨hz1, hz2⟩
        rw [hz1]
        refine zN ?_
        refine qp (K.add_i64 rfl rfl (by omega)) ?_
        refine qa ?_
        refine K.seq_nil ?_
        refine K.norm_block ?_
        refine K.norm_then ?_
        refine K.region_lit ?_
        refine qp (K.add_i64 rfl rfl (by omega)) ?_
        refine qm ?_
        refine K.seq_nil ?_
        have hsm := sumF_yes (rec := costF r lv fx f) (l := (lv.getD j default)) ht114
        exact K.round_endW (L'' := K.mq bm none z120.2 :: K.blk bc 97 [.pointer (some ⟨q, 0, none⟩), .slice QL lv.length cL, .map (some bm), .slice QF fx.length cF, .int .i64 ((mthS r : Nat) : Int)] :: K.row (.slice QL lv.length cL) 3 1 lv.length (lv.flatMap K.eI) :: K.row (.slice QF fx.length cF) 3 1 fx.length (fx.flatMap K.eI) :: K.blk q 79 (.slice A r.length c :: dcell (drT r)) :: K.blk b3 101 [.int .i64 (a : Int), .int .i64 low] :: T) [.int .i64 (sumF (costF r lv fx f) r a (lv.getD j default) k + costF r lv fx f k (lv.getD j default)), .int .i64 ((k : Int) + 1)] ⟨k + 1, z120.2, by rw [hsm]; rfl, rfl, hz120.2, by omega⟩ (by simp [K.nth, intOf]; omega) ((List.Sublist.refl _)) (by kernel_rfl)
      try replace ht114 := of_decide_eq_false ht114
      refine K.skip ?_
      refine K.norm_block ?_
      refine K.norm_then ?_
      refine K.region_lit ?_
      refine qp (K.add_i64 rfl rfl (by omega)) ?_
      refine qm ?_
      refine K.seq_nil ?_
      have hsm := sumF_no (rec := costF r lv fx f) (l := (lv.getD j default)) ht114
      exact K.round_endW (L'' := K.mq bm none kvs2 :: K.blk bc 97 [.pointer (some ⟨q, 0, none⟩), .slice QL lv.length cL, .map (some bm), .slice QF fx.length cF, .int .i64 ((mthS r : Nat) : Int)] :: K.row (.slice QL lv.length cL) 3 1 lv.length (lv.flatMap K.eI) :: K.row (.slice QF fx.length cF) 3 1 fx.length (fx.flatMap K.eI) :: K.blk q 79 (.slice A r.length c :: dcell (drT r)) :: K.blk b3 101 [.int .i64 (a : Int), .int .i64 low] :: T) [.int .i64 (sumF (costF r lv fx f) r a (lv.getD j default) k), .int .i64 ((k : Int) + 1)] ⟨k + 1, kvs2, by rw [hsm]; rfl, rfl, hkn2, by omega⟩ (by simp [K.nth, intOf]; omega) ((List.Sublist.cons _ (List.Sublist.refl _))) (by kernel_rfl)
    try replace ht106 := of_decide_eq_false ht106
    refine K.exit ?_
    refine K.exit_then ?_
    refine K.exit_then ?_
    refine K.exit_here ?_
    refine K.norm_then ?_
    refine K.region_lit ?_
    iterate 2 refine qm ?_
    refine qp (K.min_int rfl rfl) ?_
    refine qa ?_
    refine K.seq_nil ?_
    refine K.norm_block ?_
    refine K.norm_then ?_
    refine K.region_lit ?_
    refine qp (K.add_i64 rfl rfl (by omega)) ?_
    refine qm ?_
    refine K.seq_nil ?_
    have e0 : k = r.length := by omega
    subst e0
    have hmn := minF_more (rec := costF r lv fx f) hskn
    exact K.round_endW (L'' := K.mq bm none kvs2 :: K.blk bc 97 [.pointer (some ⟨q, 0, none⟩), .slice QL lv.length cL, .map (some bm), .slice QF fx.length cF, .int .i64 ((mthS r : Nat) : Int)] :: K.row (.slice QL lv.length cL) 3 1 lv.length (lv.flatMap K.eI) :: K.row (.slice QF fx.length cF) 3 1 fx.length (fx.flatMap K.eI) :: K.blk q 79 (.slice A r.length c :: dcell (drT r)) :: K.blk b3 101 [.int .i64 (a : Int), .int .i64 low] :: T) [.int .i64 (min (minF (costF r lv fx f) r lv fx a low j) (sumF (costF r lv fx f) r a (lv.getD j default) r.length)), .int .i64 ((j : Int) + 1)] ⟨j + 1, kvs2, by rw [hmn]; rfl, rfl, hkn2, by omega⟩ (by simp [K.nth, intOf]; omega) ((List.Sublist.refl _)) (by kernel_rfl)
  try replace ht32 := of_decide_eq_false ht32
  refine K.exit ?_
  refine K.exit_then ?_
  refine K.exit_then ?_
  refine K.exit_here ?_
  refine K.norm_then ?_
  refine K.seq ?_
  refine K.draw_L [6] Tryd_mixed ?_
  refine K.d_pure 0 rfl (K.move) (by kernel_rfl) rfl ?_
  refine zn ?_
  refine K.d_pure 1 rfl (K.nilCheck rfl) (by kernel_rfl) rfl ?_
  refine zn ?_
  refine K.d_pure 2 rfl (K.fieldAddr_lit fo_97_2 rfl) (by kernel_rfl) rfl ?_
  refine zn ?_
  refine K.d_mem 3 rfl (K.load1_own one_95 rfl (K.m1) rfl) (fun _ h => h) (by kernel_rfl) (by kernel_rfl) rfl ?_
  refine zN ?_
  refine K.d_mem 4 rfl (K.loadA_own ag_101 rfl (K.m5) rfl) (fun _ h => h) (by kernel_rfl) (by kernel_rfl) rfl ?_
  refine zN ?_
  refine K.d_pure 5 rfl (K.move) (by kernel_rfl) rfl ?_
  refine zn ?_
  refine K.d_last 6 rfl (K.mapUpdate_mq mapC rfl rfl rfl (keyC (by omega) (by omega)) (keyCs g hkn1) (fun _ => K.rp0)) rfl (by kernel_rfl) rfl ?_
  rintro kvs6 hput6
  refine zN ?_
  refine K.d_done (by kernel_rfl) ?_
  refine K.norm_then ?_
  refine sr ?_
  refine qm ?_
  refine qa ?_
  refine sn ?_
  refine K.ret ?_
  refine K.end_ret (fun w _ => K.res_tmp rfl w) ?_
  have e0 : j = lv.length := by omega
  subst e0
  have hkp : KnOk r lv fx kvs6 := kn_put hkn1 ha hlo (by rw [← hf]; exact hput6)
  exact K.retsU (costF r lv fx (f + 1) a low, kvs6) ⟨rfl, hkp⟩ rfl ((List.Sublist.cons_cons _ (List.Sublist.cons_cons _ (List.Sublist.cons_cons _ (List.Sublist.cons_cons _ (List.Sublist.cons_cons _ (List.Sublist.cons _ (List.Sublist.refl _))))))))

theorem c77 {r : List RvT} {A : Option Addr} {c q : Nat} {w0 : World} (hR : K.Rd w0 A 4 eR r) (g : Good r) {lv fx : List Int} {QL QF : Option Addr} {cL cF bm bc : Nat} (hlv : ∀ x ∈ lv, -4500 ≤ x ∧ x ≤ 9000) (hll : lv.length ≤ 27) (hfl : fx.length ≤ 9) (hqL : lv.length = 0 ∨ ∃ b, QL = some ⟨b, 0, none⟩) (hqF : fx.length = 0 ∨ ∃ b, QF = some ⟨b, 0, none⟩) : ∀ f, Go77 r A c q lv fx QL QF cL cF bm bc f w0
  | 0 => fun _ _ ha _ hf => absurd hf (by have := (dep_is g ha).1; omega)
  | f + 1 => fun h1 h2 h3 h4 h5 => c77_s hR g hlv hll hfl hqL hqF (c77 hR g hlv hll hfl hqL hqF f) h1 h2 h3 h4 h5


end Go.Proofs.YtoemnobfnnjopaaDoor
