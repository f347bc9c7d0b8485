/-
  Lemmas and walks of functions, joined and with only what the claim needs.
  Conditions stand in each theorem.
-/
import Derived.Test.YtnhhfkgldoeifaaGreatDoorProg
import Derived.Test.YtnhhfkgldoeifaaGreatDoorRows
import Derived.Below
import Derived.Laws.AppendOwn
import Derived.Laws.Rows
import Derived.Laws.Slices
import Derived.Tactics
import Derived.OrdersHeld
import Derived.KernelRfl
import Derived.WalkKit
import Derived.Deep.AppendLies
import Derived.IntWalk
import Derived.Scope
import Derived.WalkSpells
import Derived.DeepKeys
import Derived.Deep.Upon
import Derived.Laws.Small
import Derived.RangeFuncLeaves
import Derived.RangeFuncSeq
import Derived.OrdersIn
import Derived.Sort.LoopGhostIn
import Derived.TacticsIn
import Derived.RangeFuncOwn
import Derived.WideKeyMaps
import Derived.DeepKeys4
import Derived.Carry
import Derived.Laws.CopyRow
import Derived.WalkArith
import Derived.Laws.Closers25b
import Derived.ProofKit
import Derived.OpenShut
import Derived.LaidMore
import Derived.Lay
import Derived.Stop.Joined
import Derived.Lib.LaidTab
import Derived.Shelf.Strconv.Itoa3
import Derived.ChangeOld
import Derived.SizedLaws
import Derived.Deep.Slices
import Derived.Deep.Fields
import Derived.ChangeSame
import Derived.Lib.SmallJoins
import Derived.Laws.MakeOwn
import Derived.WideLaws
import Derived.Shelf.Small.Strs
import Derived.Shelf.Strings.OnBuilder
import Derived.Shelf.Strings.BuilderK
import Derived.Shelf.Strconv.Atoi
import Derived.Shelf.Strings.Prefix
import Derived.Shelf.Strings.Split
import Derived.Shelf.Strings.Search3
import Derived.Shelf.Slices.Turned
import Derived.Lib.FrozenHead
import Derived.Lib.OthersKept
import Derived.Laws.Concat
import Derived.Lib.AtoiErrMem
import Derived.Lib.ItoaNum
import Derived.Lib.Join
import Derived.RecoverIn
import Derived.Lib.IndexBytes
import Derived.Lib.Bytealg
import Derived.SevenTiedAt
import Derived.Test.YtnhhfkgldoeifaaGreatDoorZb
set_option linter.unusedSimpArgs false
set_option linter.unusedVariables false
section
namespace Go.Proofs.YtnhhfkgldoeifaaGreatDoor.Pn
open Go.RowKit Go
open Go.K (setd setn ev nth over cl eI eP eT setM setF)
attribute [local irreducible] K.blk K.row
theorem laidOut : laidOutB Tryz.prog = true := by kernel_rfl
theorem sizeT : Tryz.prog.types.size = 261 := by kernel_rfl
theorem row80 : 110 < Tryz.prog.types.size := by rw [sizeT]; decide
theorem key80 : Tryz.prog.keyTypeAt 10 110 = true := by kernel_rfl
theorem wide80 : (match Tryz.prog.underlying 110 with | some (.array _ _) | some (.struct _) => true | _ => false) = true := by kernel_rfl
theorem ulM : Tryz.prog.underlying 200 = some (.map 110 3) := by kernel_rfl
theorem k2_80 : K.key2 Tryz.prog 110 = true := by kernel_rfl
set_option maxRecDepth 100000 in
theorem mapT : K.MapT Tryz.prog 200 110 := ⟨⟨3, ulM, fun w => by kernel_rfl⟩, deep_law_laid laidOut (m := 10) (by omega) row80 key80 wide80⟩
theorem form80 (x y : Int) : (Value.agg #[.int .i64 x, .int .i64 y]).formed Tryz.prog 110 = true := by kernel_rfl
theorem keyOf80 {x y : Int} (hx : -1000 ≤ x ∧ x ≤ 1000) (hy : -1000 ≤ y ∧ y ≤ 1000) : ∃ q, keyOf Tryz.prog 110 (.agg #[.int .i64 x, .int .i64 y]) = some q :=
 K.keyOf_2 k2_80 (by rw [sizeT]; decide) (form80 x y) (WalkArith.wf_i64 (by omega)) (WalkArith.wf_i64 (by omega))
theorem pin_0 {W D : Int} {ps : List PinT} {i : Nat} (h : pinE W D ps i = 0) : onF W D (ps.getD i default).x (ps.getD i default).y := by
 unfold pinE at h
 split at h
 ·cases h
 split at h
 ·cases h
 split at h
 ·cases h
 ·rename_i _ _ h3; exact Decidable.not_not.1 h3
theorem keysOk {W D : Int} {ps : List PinT} {k : Nat} (hW : W ≤ 8) (hD : D ≤ 8) (hk : k ≤ ps.length) (h : ∀ j, j < k → pinE W D ps j = 0) : ∀ p ∈ (ps.take k).map (fun p => (Value.agg #[.int .i64 p.x, .int .i64 p.y], (1 : Int))), ∃ q, keyOf Tryz.prog 110 p.1 = some q := by
 intro p hp
 obtain ⟨x, hx, rfl⟩ := List.mem_map.1 hp
 obtain ⟨j, hj, rfl⟩ := List.mem_take_iff_getElem.1 hx
 have h1 := pin_0 (h j (by omega))
 rw [List.getD_eq_getElem?_getD, List.getElem?_eq_getElem (by omega)] at h1
 simp only [Option.getD_some, onF] at h1
 exact keyOf80 (by omega) (by omega)
theorem key_in {ps : List PinT} {k : Nat} {x y n : Int} (h : (Value.agg #[.int .i64 x, .int .i64 y], n) ∈ (ps.take k).map (fun p => (Value.agg #[.int .i64 p.x, .int .i64 p.y], (1 : Int)))) : n = 1 ∧ (ps.take k).any (atP x y) = true := by
 obtain ⟨p, hp, h2⟩ := List.mem_map.1 h
 simp only [Prod.mk.injEq, Value.agg.injEq] at h2
 obtain ⟨h2, h3⟩ := h2
 have h4 : p.x = x ∧ p.y = y := by simpa using h2
 exact ⟨h3.symm, List.any_eq_true.2 ⟨p, hp, decide_eq_true h4⟩⟩
theorem key_out {ps : List PinT} {k : Nat} {x y : Int} (h : ∀ p ∈ (ps.take k).map (fun p => (Value.agg #[.int .i64 p.x, .int .i64 p.y], (1 : Int))), p.1 ≠ Value.agg #[.int .i64 x, .int .i64 y]) : (ps.take k).any (atP x y) = false := by
 rw [List.any_eq_false]
 intro p hp hc
 have hc' : p.x = x ∧ p.y = y := by simpa [atP] using hc
 refine h _ (List.mem_map_of_mem hp) ?_
 rw [hc'.1, hc'.2]
theorem key_look {ps : List PinT} {k : Nat} {x y c : Int} (h : (c = 0 ∧ ∀ p ∈ (ps.take k).map (fun p => (Value.agg #[.int .i64 p.x, .int .i64 p.y], (1 : Int))), p.1 ≠ Value.agg #[.int .i64 x, .int .i64 y]) ∨ (Value.agg #[.int .i64 x, .int .i64 y], c) ∈ (ps.take k).map (fun p => (Value.agg #[.int .i64 p.x, .int .i64 p.y], (1 : Int)))) :
  (ps.take k).any (atP x y) = decide (c > 0) ∧ (0 ≤ c ∧ c ≤ 1) := by
 rcases h with ⟨rfl, h⟩ | h
 ·exact ⟨by rw [key_out h]; rfl, by omega⟩
 ·obtain ⟨rfl, h1⟩ := key_in h
  exact ⟨by rw [h1]; rfl, by omega⟩
theorem modify_end {E : Type} {f : E → E} : ∀ (xs : List E) (a : E), (xs ++ [a]).modify xs.length f = xs ++ [f a]
 | [], _ => rfl
 | x :: xs, a => by
  have := modify_end (f := f) xs a
  simpa using this
theorem key_c0 {ps : List PinT} {k : Nat} {x y c : Int} (hn : (ps.take k).any (atP x y) = false) (h : (c = 0 ∧ ∀ p ∈ (ps.take k).map (fun p => (Value.agg #[.int .i64 p.x, .int .i64 p.y], (1 : Int))), p.1 ≠ Value.agg #[.int .i64 x, .int .i64 y]) ∨ (Value.agg #[.int .i64 x, .int .i64 y], c) ∈ (ps.take k).map (fun p => (Value.agg #[.int .i64 p.x, .int .i64 p.y], (1 : Int)))) : c = 0 := by
 obtain ⟨h1, h2⟩ := key_look h
 rw [hn] at h1
 have := Kq.oF h1.symm
 omega
theorem key_c1 {ps : List PinT} {k j : Nat} {x y c : Int} (hn : (ps.take k).any (atP x y) = false)
  (h : (c = 0 ∧ ∀ p ∈ K.entQ ((ps.take k).map (fun p => (Value.agg #[.int .i64 p.x, .int .i64 p.y], (1 : Int)))) (Value.agg #[.int .i64 x, .int .i64 y]) j, p.1 ≠ Value.agg #[.int .i64 x, .int .i64 y]) ∨ (Value.agg #[.int .i64 x, .int .i64 y], c) ∈ K.entQ ((ps.take k).map (fun p => (Value.agg #[.int .i64 p.x, .int .i64 p.y], (1 : Int)))) (Value.agg #[.int .i64 x, .int .i64 y]) j) : c = 0 := by
 rcases h with ⟨h, _⟩ | h
 ·exact h
 ·unfold K.entQ at h
  split at h
  ·obtain ⟨_, h1⟩ := key_in h
   rw [h1] at hn; cases hn
  ·rcases List.mem_append.1 h with h | h
   ·obtain ⟨_, h1⟩ := key_in h
    rw [h1] at hn; cases hn
   ·simp at h; exact h
theorem keysE {W D : Int} {ps : List PinT} {k j : Nat} {x y : Int} (hW : W ≤ 8) (hD : D ≤ 8) (hk : k ≤ ps.length) (h : ∀ j, j < k → pinE W D ps j = 0) (hF : onF W D x y) : ∀ p ∈ K.entQ ((ps.take k).map (fun p => (Value.agg #[.int .i64 p.x, .int .i64 p.y], (1 : Int)))) (Value.agg #[.int .i64 x, .int .i64 y]) j, ∃ q, keyOf Tryz.prog 110 p.1 = some q := by
 intro p hp
 unfold K.entQ at hp
 split at hp
 ·exact keysOk hW hD hk h p hp
 ·rcases List.mem_append.1 hp with hp | hp
  ·exact keysOk hW hD hk h p hp
  ·simp at hp; subst hp
   simp only [onF] at hF
   exact keyOf80 (by omega) (by omega)
theorem key_next {ps : List PinT} {k j : Nat} {c v : Int} (hk : k < ps.length) (hn : (ps.take k).any (atP (ps.getD k default).x (ps.getD k default).y) = false) (hc : c = 0)
  (h : (j = ((ps.take k).map (fun p => (Value.agg #[.int .i64 p.x, .int .i64 p.y], (1 : Int)))).length ∧ v = 0 ∧ ∀ p ∈ (ps.take k).map (fun p => (Value.agg #[.int .i64 p.x, .int .i64 p.y], (1 : Int))), p.1 ≠ Value.agg #[.int .i64 (ps.getD k default).x, .int .i64 (ps.getD k default).y]) ∨ ((ps.take k).map (fun p => (Value.agg #[.int .i64 p.x, .int .i64 p.y], (1 : Int))))[j]? = some (Value.agg #[.int .i64 (ps.getD k default).x, .int .i64 (ps.getD k default).y], v)) :
  (K.entQ ((ps.take k).map (fun p => (Value.agg #[.int .i64 p.x, .int .i64 p.y], (1 : Int)))) (Value.agg #[.int .i64 (ps.getD k default).x, .int .i64 (ps.getD k default).y]) j).modify j (fun p => (p.1, c + 1)) = (ps.take (k + 1)).map (fun p => (Value.agg #[.int .i64 p.x, .int .i64 p.y], (1 : Int))) := by
 rcases h with ⟨rfl, _, _⟩ | h
 ·rw [take_succ_map _ hk, K.entQ, if_neg (Nat.lt_irrefl _), hc]
  exact modify_end _ _
 ·obtain ⟨_, h1⟩ := key_in (List.mem_of_getElem? h)
  rw [h1] at hn; cases hn

set_option maxRecDepth 100000 in
theorem c55 {q x : PinT} {p : Addr} {w : World} (hp : K.PtrL w [] p (eN x)) :
  Calls Tryz.prog 123 [.agg #[.string q.nm, .int .i64 q.x, .int .i64 q.y, .int .i64 q.len, .int .i64 q.most], .pointer (some p)].toArray w (K.Gives (.bool (nmEq q.nm x.nm)) w) := by
 refine K.enter (args := [.agg #[.string q.nm, .int .i64 q.x, .int .i64 q.y, .int .i64 q.len, .int .i64 q.most], .pointer (some p)]) Tryz.func123 rfl (n := 7) rfl ?_
 refine zR ?_
 refine sr ?_
 refine qn (K.box) fun b2 => ?_
 refine qa ?_
 refine sn (sr (qp (K.aA fo_48_0 rfl) ?_))
 refine ql (K.fA one_9 rfl (K.m0) rfl) ?_
 refine qp (K.fieldAddr fo_48_0 rfl) ?_
 refine ql (K.load1 one_9 rfl ((K.PtrL.fld hp (k := 0)).any)) ?_
 refine qp (K.rC rfl rfl) ?_
 refine qa ?_
 refine sn (K.ret (et ?_))
 exact K.gives rfl

set_option maxRecDepth 100000 in
theorem c16 {m : Mod} {A B C : Option Addr} {c d e : Nat} {w : World} (hH : K.Rd w A 1 K.eI m.hs) (hP : K.Rd w B 5 eN m.ps) (hS : K.Rd w C 4 eS m.ss) (hn : m.hs.length ≤ 4611686018427387904) (hm : m.ps.length ≤ 4611686018427387904) (hk : m.ss.length ≤ 4611686018427387904) (hcd : m.ps.length ≤ d) :
  Calls Tryz.prog 86 [.agg #[.int .i64 m.W, .int .i64 m.D, .slice A m.hs.length c, .slice B m.ps.length d, .slice C m.ss.length e]].toArray w (K.Gives (K.tup3 (chk m)) w) := by
 refine K.enter (args := [.agg #[.int .i64 m.W, .int .i64 m.D, .slice A m.hs.length c, .slice B m.ps.length d, .slice C m.ss.length e]]) Tryz.func86 rfl (n := 149) rfl ?_
 refine zR ?_
 refine sr ?_
 refine qn (K.box) fun b1 => ?_
 iterate 3 refine qa ?_
 refine sn (K.seq (K.block (sr (qp (K.aA fo_30_0 rfl) ?_))))
 refine ql (K.fA one_3 rfl (K.m0) rfl) ?_
 refine qp (K.aA fo_30_1 rfl) ?_
 refine ql (K.fA one_3 rfl (K.m0) rfl) ?_
 refine qn (K.buildSlice (bs2 _ _)) fun b17 => ?_
 refine qc (K.nA cal_49 (fun F w hF hw => c50_2 hw (hF _ (K.m0)))) ?_
 refine qa ?_
 refine sn ?_
 refine K.cond rfl (fun ht12 => ?_) (fun ht12 => ?_)
 ·try replace ht12 := Kq.oT ht12
  refine sr ?_
  iterate 3 refine qa ?_
  refine sn (K.ret (K.qA (K.iA ?_)))
  refine K.wA (fun w _ => K.wB rfl w) ?_
  exact K.gives (by rw [chk_1 (by omega)]; rfl)
 try replace ht12 := Kq.oF ht12
 have hWD : (1 ≤ m.W ∧ m.W ≤ 8) ∧ (1 ≤ m.D ∧ m.D ≤ 8) := by omega
 have hwd := wd_bd hWD
 refine sr (qp (K.aA fo_30_2 rfl) ?_)
 refine ql (K.fA gC rfl (K.m1) rfl) ?_
 refine qp (K.aB yB rfl) ?_
 refine qp (K.aA fo_30_0 rfl) ?_
 refine ql (K.fA one_3 rfl (K.m1) rfl) ?_
 refine qp (K.aA fo_30_1 rfl) ?_
 refine ql (K.fA one_3 rfl (K.m1) rfl) ?_
 refine qp (K.mul_i64 rfl rfl (by omega)) ?_
 refine qp (K.neq rfl rfl) ?_
 refine qa ?_
 refine sn ?_
 refine K.cond rfl (fun ht19 => ?_) (fun ht19 => ?_)
 ·try replace ht19 := Kq.oT ht19
  refine sr ?_
  iterate 3 refine qa ?_
  refine sn (K.ret (K.qA (K.iA ?_)))
  refine K.wA (fun w _ => K.wB rfl w) ?_
  exact K.gives (by rw [chk_2 hWD ht19]; rfl)
 try replace ht19 := Kq.oF ht19
 have hl : (m.hs.length : Int) = m.W * m.D := Decidable.not_not.1 ht19
 refine K.skip (K.kA (K.dA (K.seq (sr (qp (K.aA fo_30_2 rfl) ?_)))))
 refine ql (K.fA gC rfl (K.m1) rfl) ?_
 refine qc (K.nA cal_120 (fun F w hF hw => c51 (cap := []) (p := fun h => decide (hgE h ≠ 0)) (hH.pass hw) hn cal_121 (fun x _ w1 _ => c52 w1))) ?_
 refine qa ?_
 refine sn (sr (qm ?_))
 refine qp (K.geq rfl rfl) ?_
 refine sn ?_
 refine K.cond rfl (fun ht33 => ?_) (fun ht33 => ?_)
 ·try replace ht33 := Kq.oT ht33
  refine sr (qm ?_)
  iterate 3 refine qa ?_
  refine sn (K.ret (K.iA ?_))
  refine K.wA (fun w _ => K.wB rfl w) ?_
  exact K.gives (by rw [chk_3 hWD hl (by rw [hg_idx ht33]; show (7 : Int) ≠ 0; decide), hg_idx ht33]; rfl)
 try replace ht33 := Kq.oF ht33
 refine K.skip (K.dA (K.seq (sr (qp (K.aA bC rfl) ?_))))
 refine ql (K.fA lC rfl (K.m1) rfl) ?_
 refine qp (K.aB oC rfl) ?_
 refine qp (K.gtr rfl rfl) ?_
 refine sn ?_
 refine K.cond rfl (fun ht38 => ?_) (fun ht38 => ?_)
 ·try replace ht38 := Kq.oT ht38
  refine sr ?_
  iterate 3 refine qa ?_
  refine sn (K.ret (K.iA ?_))
  refine K.wA (fun w _ => K.wB rfl w) ?_
  exact K.gives (by rw [chk_4 hWD hl (hg_idx0 ht33) (by omega)]; rfl)
 try replace ht38 := Kq.oF ht38
 refine K.skip (K.dA (sr ?_))
 refine qn (K.mkMap_q) fun b39 => ?_
 refine qa ?_
 refine sn (K.seq (K.seq ?_))
 refine K.weak (Kq.sc (Kq.s1 (Kq.sc (List.Sublist.slnil)))) ?_
 refine K.gA (qp (K.aA bC rfl) ?_)
 refine ql (K.fA lC rfl (K.m1) rfl) ?_
 refine qp (K.aB oC rfl) ?_
 refine qm ?_
 refine sn (K.block ?_)
 refine K.loopW [43] [2, 3, 4, 7, 8, 9, 44, 45, 46, 47, 48, 49, 50, 51, 52, 53, 54, 55, 56, 57, 58, 59, 60, 61, 62, 63, 64, 65, 66, 67, 68, 69, 70, 71, 72, 73, 74, 75, 76, 77, 78, 79, 80, 81, 82, 83, 84, 85, 86, 87, 88, 89, 90, 91, 92, 93, 94, 95, 96, 97, 98, 99, 100] (fun vi L => ∃ k : Nat, vi = [.int .i64 (k : Int)] ∧ L = [K.mq b39 none ((m.ps.take k).map fun p => (Value.agg #[.int .i64 p.x, .int .i64 p.y], (1 : Int))), K.blk b1 30 [.int .i64 m.W, .int .i64 m.D, .slice A m.hs.length c, .slice B m.ps.length d, .slice C m.ss.length e]] ∧ k ≤ m.ps.length ∧ ∀ j, j < k → pinE m.W m.D m.ps j = 0) (fun vi => m.ps.length - (intOf (K.nth vi 0)).toNat) ?_ ?_
 ·exact ⟨0, rfl, rfl, Nat.zero_le _, fun j hj => absurd hj (Nat.not_lt_zero j)⟩
 intro vi vr L hJ
 obtain ⟨k, rfl, rfl, hkn, hallp⟩ := hJ
 refine zY ?_
 refine sr (qp (K.lss rfl rfl) ?_)
 refine sn (K.seq ?_)
 refine K.cond rfl (fun ht44 => ?_) (fun ht44 => ?_)
 ·try replace ht44 := Kq.oT ht44
  have hk : k < m.ps.length := by omega
  have htk : (m.ps.take k).length = k := by rw [List.length_take]; omega
  refine K.skip (K.dA (K.seq (K.block (sr (qm ?_)))))
  refine K.vB (M := []) _ hP.sl oC rfl rfl rfl (by omega) rfl ?_
  intro p46 hp46
  refine zN ?_
  refine ql (K.uB ag_48 rfl (hp46.any) rfl) ?_
  refine qn (K.alloc zr_48) fun b8 => ?_
  refine qa ?_
  refine qt (K.vA sz_48 rfl rfl rfl rfl (K.rp0)) ?_
  refine sn (sr (qp (K.aA fo_48_1 rfl) ?_))
  refine ql (K.fA one_3 rfl (K.m0) rfl) ?_
  refine qp (K.aA fo_48_2 rfl) ?_
  refine ql (K.fA one_3 rfl (K.m0) rfl) ?_
  refine K.mA (K.build (bl80 _ _)) rfl ?_
  refine zN ?_
  refine qn (K.alloc zr_110) fun b9 => ?_
  refine qt (K.vA sz_110 rfl rfl rfl rfl (K.rp0)) ?_
  refine sn (K.seq (K.block (sr (qp (K.aA fo_48_0 rfl) ?_))))
  refine ql (K.fA one_9 rfl (K.m1) rfl) ?_
  refine qc (K.nA cal_36 (fun F w hF hw => c53 w)) ?_
  first | refine K.mA (K.fC rfl) rfl ?_ | refine K.mA (K.not_ rfl) rfl ?_
  refine zN ?_
  refine qa ?_
  refine sn ?_
  refine K.cond rfl (fun ht53 => ?_) (fun ht53 => ?_)
  ·try replace ht53 := Kq.oT ht53
   refine sr (qm ?_)
   iterate 3 refine qa ?_
   refine sn (K.ret (K.qA (K.iA (K.qA (K.iA (K.iA (K.qA (K.iA ?_))))))))
   refine K.wA (fun w _ => K.wB rfl w) ?_
   have hpe : pinE m.W m.D m.ps k = 6 := pin_6 (by simpa using ht53)
   exact K.gives (by rw [chk_p hWD hl (hg_idx0 ht33) (by omega) hk hallp (by rw [hpe]; decide), hpe]; rfl)
  try replace ht53 := Kq.oF ht53
  refine sr (qp (K.aA bC rfl) ?_)
  refine ql (K.fA lC rfl (K.m3) rfl) ?_
  refine qm ?_
  refine K.mA (K.Pure.eq (K.slice_hi k oC rfl rfl rfl (by omega)) (show _ = Value.slice B (m.ps.take k).length d from by rw [htk])) rfl ?_
  refine zN ?_
  refine K.mA (K.mkFunc) rfl ?_
  refine zN ?_
  refine qc (K.nA cal_122 (fun F w hF hw => (by have hp8 : ∀ w1, Below w.heap.size w w1 → K.PtrL w1 [] ⟨b8, 0, none⟩ (eN (m.ps.getD k default)) := fun w1 hb => K.PtrL.pass hw (hF _ (K.m1)) hb; exact c54 (cap := [.pointer (some ⟨b8, 0, none⟩)]) (p := fun q => nmEq q.nm (m.ps.getD k default).nm) ((hP.pass hw).take k) (by rw [htk]; omega) cal_123 (fun x _ w1 hb => c55 (hp8 w1 hb))))) ?_
  refine qa ?_
  refine sn ?_
  refine K.cond rfl (fun ht59 => ?_) (fun ht59 => ?_)
  ·try replace ht59 := Kq.oT ht59
   refine sr (qm ?_)
   iterate 3 refine qa ?_
   refine sn (K.ret (K.qA (K.iA (K.qA (K.iA (K.iA (K.qA (K.iA ?_))))))))
   refine K.wA (fun w _ => K.wB rfl w) ?_
   have hpe : pinE m.W m.D m.ps k = 5 := pin_5 (by simpa using ht53) ht59
   exact K.gives (by rw [chk_p hWD hl (hg_idx0 ht33) (by omega) hk hallp (by rw [hpe]; decide), hpe]; rfl)
  try replace ht59 := Kq.oF ht59
  refine sr (ql (K.jA cC rfl (K.m3) rfl) ?_)
  refine ql (K.jA ag_110 rfl (K.m0) rfl) ?_
  refine qc (K.nA cal_80 (fun F w hF hw => c56 hWD.1 hWD.2)) ?_
  first | refine K.mA (K.fC rfl) rfl ?_ | refine K.mA (K.not_ rfl) rfl ?_
  refine zN ?_
  refine qa ?_
  refine sn ?_
  refine K.cond rfl (fun ht67 => ?_) (fun ht67 => ?_)
  ·try replace ht67 := Kq.oT ht67
   refine sr (qm ?_)
   iterate 3 refine qa ?_
   refine sn (K.ret (K.qA (K.iA (K.qA (K.iA (K.iA (K.qA (K.iA ?_))))))))
   refine K.wA (fun w _ => K.wB rfl w) ?_
   have hpe : pinE m.W m.D m.ps k = 4 := pin_4 (by simpa using ht53) ht59 ht67
   exact K.gives (by rw [chk_p hWD hl (hg_idx0 ht33) (by omega) hk hallp (by rw [hpe]; decide), hpe]; rfl)
  try replace ht67 := Kq.oF ht67
  have hF : onF m.W m.D (m.ps.getD k default).x (m.ps.getD k default).y := Decidable.not_not.1 ht67
  refine sr (qm ?_)
  refine ql (K.jA ag_110 rfl (K.m0) rfl) ?_
  refine K.gB (K.lookup_mq mapT rfl rfl (K.m2) (keyOf80 (by omega) (by omega)) (keysOk hWD.1.2 hWD.2.2 hkn hallp)) rfl ?_
  rintro c76 hc76
  refine zN ?_
  refine qp (K.gtr rfl rfl) ?_
  refine qa ?_
  refine sn ?_
  refine K.cond rfl (fun ht73 => ?_) (fun ht73 => ?_)
  ·try replace ht73 := Kq.oT ht73
   refine sr (qm ?_)
   iterate 3 refine qa ?_
   refine sn (K.ret (K.qA (K.iA (K.qA (K.iA (K.iA (K.qA (K.iA ?_))))))))
   refine K.wA (fun w _ => K.wB rfl w) ?_
   have hpe : pinE m.W m.D m.ps k = 2 := pin_2 (by simpa using ht53) ht59 hF (by rw [(key_look hc76).1]; exact decide_eq_true ht73)
   exact K.gives (by rw [chk_p hWD hl (hg_idx0 ht33) (by omega) hk hallp (by rw [hpe]; decide), hpe]; rfl)
  try replace ht73 := Kq.oF ht73
  obtain ⟨hka, hkc⟩ := key_look hc76
  have hna : (m.ps.take k).any (atP (m.ps.getD k default).x (m.ps.getD k default).y) = false := by rw [hka]; exact decide_eq_false ht73
  refine sr (qp (K.aA fo_48_3 rfl) ?_)
  refine ql (K.fA one_3 rfl (K.m1) rfl) ?_
  refine qp (K.aA fo_48_4 rfl) ?_
  refine ql (K.fA one_3 rfl (K.m1) rfl) ?_
  refine qn (K.buildSlice (bs2 _ _)) fun b84 => ?_
  refine qc (K.nA cal_49 (fun F w hF hw => c50_2 hw (hF _ (K.m0)))) ?_
  refine qm ?_
  refine K.split 86 rfl (fun hg86 => ?_) (fun hg86 => ?_)
  ·try replace hg86 := Kq.oT hg86
   iterate 5 refine qs ?_
   refine qp (K.sA rfl) ?_
   refine qa ?_
   refine sn (K.yA rfl ?_)
   refine sr (qm ?_)
   iterate 3 refine qa ?_
   refine sn (K.ret (K.qA (K.iA (K.qA (K.iA (K.iA (K.qA (K.iA ?_))))))))
   refine K.wA (fun w _ => K.wB rfl w) ?_
   have hpe : pinE m.W m.D m.ps k = 7 := by rw [pin_7 (by simpa using ht53) ht59 hF hna, lenE_7 (by omega)]
   exact K.gives (by rw [chk_p hWD hl (hg_idx0 ht33) (by omega) hk hallp (by rw [hpe]; decide), hpe]; rfl)
  try replace hg86 := Kq.oF hg86
  refine qp (K.aA fo_48_4 rfl) ?_
  refine ql (K.fA one_3 rfl (K.m2) rfl) ?_
  refine qp (K.aA fo_48_3 rfl) ?_
  refine ql (K.fA one_3 rfl (K.m2) rfl) ?_
  refine qp (K.lss rfl rfl) ?_
  refine qp (K.dB rfl) ?_
  refine qa ?_
  refine sn ?_
  refine K.cond rfl (fun ht79 => ?_) (fun ht79 => ?_)
  ·try replace ht79 := Kq.oT ht79
   refine sr (qm ?_)
   iterate 3 refine qa ?_
   refine sn (K.ret (K.qA (K.iA (K.qA (K.iA (K.iA (K.qA (K.iA ?_))))))))
   refine K.wA (fun w _ => K.wB rfl w) ?_
   have hpe : pinE m.W m.D m.ps k = 7 := by rw [pin_7 (by simpa using ht53) ht59 hF hna, lenE_7 (by omega)]
   exact K.gives (by rw [chk_p hWD hl (hg_idx0 ht33) (by omega) hk hallp (by rw [hpe]; decide), hpe]; rfl)
  try replace ht79 := Kq.oF ht79
  refine K.skip (K.kA (K.dA ?_))
  refine K.draw_take 3 [4, 6] uA ?_
  refine dp 0 rfl (K.move) ?_
  refine K.aC 1 rfl (K.jA ag_110 rfl (K.m1) rfl) (fun _ h => K.dC 3 _ h) (by kernel_rfl) (by kernel_rfl) rfl ?_
  refine zN ?_
  refine K.d_two 2 4 (by kernel_rfl) ?_ ?_
  ·refine K.s_loud 2 rfl (K.lookup_mq mapT rfl rfl (K.m3) (keyOf80 (by omega) (by omega)) (keysOk hWD.1.2 hWD.2.2 hkn hallp)) (fun _ h => K.dC 3 _ h) (by kernel_rfl) rfl ?_
   rintro c96 hc96
   refine zN ?_
   have hc0 : c96 = 0 := by first | exact key_c0 hna hc96 | exact key_c1 hna hc96
   refine zN ?_
   refine dp 3 rfl (K.tA rfl rfl (by omega)) ?_
   refine K.eC 4 rfl (K.mapEntry_mq mapT rfl rfl (keyOf80 (by omega) (by omega)) (keysOk hWD.1.2 hWD.2.2 hkn hallp) (fun _ => K.rp3)) rfl (by kernel_rfl) rfl ?_
   rintro ⟨v98, n98, j98⟩ h98
   refine zN ?_
   refine dp 5 rfl (K.extract rfl rfl) ?_
   refine K.eC 6 rfl (K.entryStore_mq rfl rfl rfl (K.rp3)) rfl (by kernel_rfl) rfl ?_
   intro _ _
   refine zN ?_
   refine dd (K.kA (K.dA (K.gA (qp (K.tA rfl rfl (by omega)) ?_))))
   refine qm ?_
   refine K.lA ?_
   rw [key_next hk hna hc0 h98]
   have hpz : pinE m.W m.D m.ps k = 0 := by
    rw [pin_7 (by simpa using ht53) ht59 hF hna, lenE_0 (by omega)]
   exact K.rA (L'' := [K.mq b39 none ((m.ps.take (k + 1)).map fun p => (Value.agg #[.int .i64 p.x, .int .i64 p.y], (1 : Int))), K.blk b1 30 [.int .i64 m.W, .int .i64 m.D, .slice A m.hs.length c, .slice B m.ps.length d, .slice C m.ss.length e]]) [.int .i64 ((k : Int) + 1)] ⟨k + 1, rfl, rfl, by omega, K.fB hallp hpz⟩ (by simp [K.nth, intOf]; omega) (by repeat (first | exact List.Sublist.refl _ | apply List.Sublist.cons)) (by kernel_rfl)
  refine K.s_last 4 rfl (K.mapEntry_mq mapT rfl rfl (keyOf80 (by omega) (by omega)) (keysOk hWD.1.2 hWD.2.2 hkn hallp) (fun _ => K.rp3)) rfl (by kernel_rfl) rfl ?_
  rintro ⟨v98, n98, j98⟩ h98
  refine zN ?_
  refine dp 5 rfl (K.extract rfl rfl) ?_
  refine K.d_loud 2 rfl (K.lookup_mq mapT rfl rfl (K.m3) (keyOf80 (by omega) (by omega)) (keysE hWD.1.2 hWD.2.2 hkn hallp hF)) (fun _ h => K.dC 3 _ h) (by kernel_rfl) rfl ?_
  rintro c96 hc96
  refine zN ?_
  have hc0 : c96 = 0 := by first | exact key_c0 hna hc96 | exact key_c1 hna hc96
  refine zN ?_
  refine dp 3 rfl (K.tA rfl rfl (by omega)) ?_
  refine K.eC 6 rfl (K.entryStore_mq rfl rfl rfl (K.rp3)) rfl (by kernel_rfl) rfl ?_
  intro _ _
  refine zN ?_
  refine dd (K.kA (K.dA (K.gA (qp (K.tA rfl rfl (by omega)) ?_))))
  refine qm ?_
  refine K.lA ?_
  rw [key_next hk hna hc0 h98]
  have hpz : pinE m.W m.D m.ps k = 0 := by
   rw [pin_7 (by simpa using ht53) ht59 hF hna, lenE_0 (by omega)]
  exact K.rA (L'' := [K.mq b39 none ((m.ps.take (k + 1)).map fun p => (Value.agg #[.int .i64 p.x, .int .i64 p.y], (1 : Int))), K.blk b1 30 [.int .i64 m.W, .int .i64 m.D, .slice A m.hs.length c, .slice B m.ps.length d, .slice C m.ss.length e]]) [.int .i64 ((k : Int) + 1)] ⟨k + 1, rfl, rfl, by omega, K.fB hallp hpz⟩ (by simp [K.nth, intOf]; omega) (by repeat (first | exact List.Sublist.refl _ | apply List.Sublist.cons)) (by kernel_rfl)
 try replace ht44 := Kq.oF ht44
 refine K.exit (K.pA (K.pA (K.zA (K.dA (K.seq (sr (qp (K.aA fo_30_4 rfl) ?_)))))))
 refine ql (K.fA one_28 rfl (K.m1) rfl) ?_
 refine qp (K.aB tC rfl) ?_
 refine qp (K.gtr rfl rfl) ?_
 refine sn ?_
 refine K.cond rfl (fun ht104 => ?_) (fun ht104 => ?_)
 ·try replace ht104 := Kq.oT ht104
  refine sr ?_
  iterate 3 refine qa ?_
  refine sn (K.ret (K.iA ?_))
  refine K.wA (fun w _ => K.wB rfl w) ?_
  exact K.gives (by rw [chk_6 hWD hl (hg_idx0 ht33) (by omega) (fst_ps (fun j hj => hallp j (by omega))) (by omega)]; rfl)
 try replace ht104 := Kq.oF ht104
 refine K.skip (K.dA (K.seq (K.seq ?_)))
 refine K.weak Kq.s0 ?_
 refine K.gA (qp (K.aA fo_30_4 rfl) ?_)
 refine ql (K.fA one_28 rfl (K.m1) rfl) ?_
 refine qp (K.aB tC rfl) ?_
 refine qm ?_
 refine sn (K.block ?_)
 refine K.loopW [108] [2, 3, 4, 10, 11, 109, 110, 111, 112, 113, 114, 115, 116, 117, 118, 119, 120, 121, 122, 123, 124, 125, 126, 127, 128, 129, 130, 131, 132, 133, 134, 135, 136, 137, 138, 139, 140, 141, 142, 143, 144, 145, 146, 147, 148, 149] (fun vi L => ∃ (j : Nat), vi = [.int .i64 (j : Int)] ∧ L = [K.mq b39 none ((m.ps.take k).map fun p => (Value.agg #[.int .i64 p.x, .int .i64 p.y], (1 : Int))), K.blk b1 30 [.int .i64 m.W, .int .i64 m.D, .slice A m.hs.length c, .slice B m.ps.length d, .slice C m.ss.length e]] ∧ j ≤ m.ss.length ∧ ∀ i, i < j → stE m.W m.D (m.ss.getD i default) = 0) (fun vi => m.ss.length - (intOf (K.nth vi 0)).toNat) ?_ ?_
 ·exact ⟨0, rfl, rfl, Nat.zero_le _, fun j hj => absurd hj (Nat.not_lt_zero j)⟩
 intro vi vr L hJ
 obtain ⟨j, rfl, rfl, hjn, halls⟩ := hJ
 refine zY ?_
 refine sr (qp (K.lss rfl rfl) ?_)
 refine sn (K.seq ?_)
 refine K.cond rfl (fun ht109 => ?_) (fun ht109 => ?_)
 ·try replace ht109 := Kq.oT ht109
  have hj : j < m.ss.length := by omega
  refine K.skip (K.dA (K.seq (K.block (sr (qm ?_)))))
  refine K.vB (M := []) _ hS.sl tC rfl rfl rfl (by omega) rfl ?_
  intro p111 hp111
  refine zN ?_
  refine ql (K.uB ag_62 rfl (hp111.any) rfl) ?_
  refine qn (K.alloc zr_62) fun b11 => ?_
  refine qa ?_
  refine qt (K.vA sz_62 rfl rfl rfl rfl (K.rp0)) ?_
  refine sn (K.block (sr (qp (K.aA fo_62_0 rfl) ?_)))
  refine ql (K.fA one_3 rfl (K.m0) rfl) ?_
  refine qp (K.aA fo_62_1 rfl) ?_
  refine ql (K.fA one_3 rfl (K.m0) rfl) ?_
  refine qn (K.buildSlice (bs2 _ _)) fun b118 => ?_
  refine qc (K.nA cal_49 (fun F w hF hw => c50_2 hw (hF _ (K.m0)))) ?_
  refine qm ?_
  refine K.split 120 rfl (fun hg120 => ?_) (fun hg120 => ?_)
  ·try replace hg120 := Kq.oT hg120
   iterate 8 refine qs ?_
   refine qp (K.sA rfl) ?_
   refine qa ?_
   refine sn (K.yA rfl ?_)
   refine sr (qm ?_)
   iterate 3 refine qa ?_
   refine sn (K.ret (K.qA (K.qA (K.iA (K.iA (K.qA (K.iA ?_)))))))
   refine K.wA (fun w _ => K.wB rfl w) ?_
   have hse : stE m.W m.D (m.ss.getD j default) = 7 := by unfold stE; rw [if_pos (by omega)]
   exact K.gives (by rw [chk_s hWD hl (hg_idx0 ht33) (by omega) (fst_ps (fun j hj => hallp j (by omega))) (by omega) hj halls (by rw [hse]; decide), hse]; rfl)
  try replace hg120 := Kq.oF hg120
  refine qp (K.aA fo_62_2 rfl) ?_
  refine qp (K.aA fo_46_0 rfl) ?_
  refine ql (K.fA one_3 rfl (K.m1) rfl) ?_
  refine qp (K.aA fo_62_2 rfl) ?_
  refine qp (K.aA fo_46_1 rfl) ?_
  refine ql (K.fA one_3 rfl (K.m1) rfl) ?_
  refine qn (K.buildSlice (bs2 _ _)) fun b127 => ?_
  refine qc (K.nA cal_49 (fun F w hF hw => c50_2 hw (hF _ (K.m0)))) ?_
  refine qp (K.dB rfl) ?_
  refine qa ?_
  refine sn ?_
  refine K.cond rfl (fun ht113 => ?_) (fun ht113 => ?_)
  ·try replace ht113 := Kq.oT ht113
   refine sr (qm ?_)
   iterate 3 refine qa ?_
   refine sn (K.ret (K.qA (K.qA (K.iA (K.iA (K.qA (K.iA ?_)))))))
   refine K.wA (fun w _ => K.wB rfl w) ?_
   have hse : stE m.W m.D (m.ss.getD j default) = 7 := by unfold stE; rw [if_pos (by omega)]
   exact K.gives (by rw [chk_s hWD hl (hg_idx0 ht33) (by omega) (fst_ps (fun j hj => hallp j (by omega))) (by omega) hj halls (by rw [hse]; decide), hse]; rfl)
  try replace ht113 := Kq.oF ht113
  refine sr (ql (K.jA cC rfl (K.m4) rfl) ?_)
  refine qp (K.aA fo_62_0 rfl) ?_
  refine ql (K.fA one_3 rfl (K.m2) rfl) ?_
  refine qp (K.aA fo_62_1 rfl) ?_
  refine ql (K.fA one_3 rfl (K.m2) rfl) ?_
  refine K.mA (K.build (bl80 _ _)) rfl ?_
  refine zN ?_
  refine qc (K.nA cal_80 (fun F w hF hw => c56 hWD.1 hWD.2)) ?_
  refine qa ?_
  refine sn ?_
  refine K.cond rfl (fun ht131 => ?_) (fun ht131 => ?_)
  ·try replace ht131 := Kq.oT ht131
   refine sr (qm ?_)
   iterate 3 refine qa ?_
   refine sn (K.ret (K.qA (K.qA (K.iA (K.iA (K.qA (K.iA ?_)))))))
   refine K.wA (fun w _ => K.wB rfl w) ?_
   have hse : stE m.W m.D (m.ss.getD j default) = 4 := by unfold stE; rw [if_neg (by omega), if_pos ht131]
   exact K.gives (by rw [chk_s hWD hl (hg_idx0 ht33) (by omega) (fst_ps (fun j hj => hallp j (by omega))) (by omega) hj halls (by rw [hse]; decide), hse]; rfl)
  try replace ht131 := Kq.oF ht131
  refine sr (qp (K.aA fo_62_2 rfl) ?_)
  refine qp (K.aA fo_46_0 rfl) ?_
  refine ql (K.fA one_3 rfl (K.m2) rfl) ?_
  refine qp (K.aA fo_62_2 rfl) ?_
  refine qp (K.aA fo_46_1 rfl) ?_
  refine ql (K.fA one_3 rfl (K.m2) rfl) ?_
  refine qp (K.gtr rfl rfl) ?_
  refine qa ?_
  refine sn ?_
  refine K.cond rfl (fun ht140 => ?_) (fun ht140 => ?_)
  ·try replace ht140 := Kq.oT ht140
   refine sr (qm ?_)
   iterate 3 refine qa ?_
   refine sn (K.ret (K.qA (K.qA (K.iA (K.iA (K.qA (K.iA ?_)))))))
   refine K.wA (fun w _ => K.wB rfl w) ?_
   have hse : stE m.W m.D (m.ss.getD j default) = 2 := by unfold stE; rw [if_neg (by omega), if_neg ht131, if_pos (by omega)]
   exact K.gives (by rw [chk_s hWD hl (hg_idx0 ht33) (by omega) (fst_ps (fun j hj => hallp j (by omega))) (by omega) hj halls (by rw [hse]; decide), hse]; rfl)
  try replace ht140 := Kq.oF ht140
  refine K.skip (K.kA (K.kA (K.dA (K.gA (qp (K.tA rfl rfl (by omega)) ?_)))))
  refine qm ?_
  refine K.lA ?_
  have hsz : stE m.W m.D (m.ss.getD j default) = 0 := by unfold stE; rw [if_neg (by omega), if_neg ht131, if_neg (by omega)]
  exact K.rA (L'' := [K.mq b39 none ((m.ps.take k).map fun p => (Value.agg #[.int .i64 p.x, .int .i64 p.y], (1 : Int))), K.blk b1 30 [.int .i64 m.W, .int .i64 m.D, .slice A m.hs.length c, .slice B m.ps.length d, .slice C m.ss.length e]]) [.int .i64 ((j : Int) + 1)] ⟨j + 1, rfl, rfl, by omega, K.fB halls hsz⟩ (by simp [K.nth, intOf]; omega) (by repeat (first | exact List.Sublist.refl _ | apply List.Sublist.cons)) (by kernel_rfl)
 try replace ht109 := Kq.oF ht109
 refine K.exit (K.pA (K.pA (K.zA (K.dA (sr ?_)))))
 iterate 3 refine qa ?_
 refine sn (K.ret ?_)
 refine K.wA (fun w _ => K.wB rfl w) ?_
 exact K.gives (by rw [chk_0 hWD hl (hg_idx0 ht33) (by omega) (fst_ps (fun j hj => hallp j (by omega))) (by omega) (by rw [K.fst_none (fun j hj => halls j (by omega))])]; rfl)

theorem g16 {m : Mod} {A B C : Option Addr} {c d e : Nat} {w : World} (hH : K.Rd w A 1 K.eI m.hs) (hP : K.Rd w B 5 eN m.ps) (hS : K.Rd w C 4 eS m.ss) (hn : m.hs.length ≤ 4611686018427387904) (hm : m.ps.length ≤ 4611686018427387904) (hk : m.ss.length ≤ 4611686018427387904) (hcd : m.ps.length ≤ d) (hc : chk m = (0, 0, 0)) : Calls Tryz.prog 86 [.agg #[.int .i64 m.W, .int .i64 m.D, .slice A m.hs.length c, .slice B m.ps.length d, .slice C m.ss.length e]].toArray w (K.Gives (.tuple #[.int .i64 0, .int .i64 0, .int .i64 0]) w) := by
 have h := c16 (c := c) (e := e) hH hP hS hn hm hk hcd
 rw [hc] at h; exact h

end Go.Proofs.YtnhhfkgldoeifaaGreatDoor.Pn
end
section
namespace Go.Proofs.YtnhhfkgldoeifaaGreatDoor.Pn
open Go.RowKit Go
open Go.K (setd setn ev nth over cl eI eP eT setM setF)
attribute [local irreducible] K.blk K.row
attribute [local irreducible] tp pnK owK negK
theorem bl101 (m : Mod) (A B C : Option Addr) (c d e : Nat) : K.Bl Tryz.prog 108 [(0, .agg #[.int .i64 m.W, .int .i64 m.D, .slice A m.hs.length c, .slice B m.ps.length d, .slice C m.ss.length e])] (.agg (mdG [.int .i64 m.W, .int .i64 m.D, .slice A m.hs.length c, .slice B m.ps.length d, .slice C m.ss.length e] (owK m 0) (List.replicate 64 0) (negK 0)).toArray) := fun w => by kernel_rfl

set_option maxRecDepth 100000 in
theorem g67 {m : Mod} {A B C : Option Addr} {c d e : Nat} {w : World} (hH : K.Rd w A 1 K.eI m.hs) (hP : K.Rd w B 5 eN m.ps) (hS : K.Rd w C 4 eS m.ss) (hn : m.hs.length ≤ 4611686018427387904) (hm : m.ps.length ≤ 4611686018427387904) (hk : m.ss.length ≤ 4611686018427387904) (hcd : m.ps.length ≤ d) (hc : chk m = (0, 0, 0)) :
  Calls Tryz.prog 48 [.agg #[.int .i64 m.W, .int .i64 m.D, .slice A m.hs.length c, .slice B m.ps.length d, .slice C m.ss.length e]].toArray w (K.Ret (fun _ : Nat => True) (fun b => .tuple #[.pointer (some ⟨b, 0, none⟩), .int .i64 0]) (fun b => [K.blk b 108 (mdl m A B C c d e)]) w) := by
 have g : Good m := chk_good (by rw [hc])
 have hwd := wd_bd ⟨g.w, g.d⟩
 have hgl := g.l
 have hgn := g.n
 refine K.enter (args := [.agg #[.int .i64 m.W, .int .i64 m.D, .slice A m.hs.length c, .slice B m.ps.length d, .slice C m.ss.length e]]) Tryz.func48 rfl (n := 64) rfl ?_
 refine zR ?_
 refine sr ?_
 refine qn (K.box) fun b1 => ?_
 iterate 2 refine qa ?_
 refine sn (K.seq (sr (ql (K.jA cC rfl (K.m0) rfl) ?_)))
 refine qc (K.nA cal_86 (fun F w hF hw => g16 (hH.pass hw) (hP.pass hw) (hS.pass hw) hn hm hk hcd hc)) ?_
 refine qm ?_
 iterate 3 refine qx ?_
 refine qa ?_
 refine sn (sr (qm ?_))
 refine qp (K.neq rfl rfl) ?_
 refine sn (K.oA (by rfl) ?_)
 refine K.skip (K.dA (sr (ql (K.jA cC rfl (K.m0) rfl) ?_)))
 refine K.mA (K.build (bl101 m A B C c d e)) rfl ?_
 refine zN ?_
 refine qn (K.box) fun b18 => ?_
 try dsimp only [List.toList_toArray]
 refine zN ?_
 refine qa ?_
 refine sn (K.seq ?_)
 refine K.draw_drop 1 [] uA ?_
 refine dp 0 rfl (K.move) ?_
 refine dp 1 rfl (K.nilCheck rfl) ?_
 refine dp 2 rfl (K.aA fo_108_2 rfl) ?_
 refine dp 3 rfl (K.slice_arr ar_106 rfl) ?_
 refine dp 4 rfl (K.aA fo_30_2 rfl) ?_
 refine K.aC 5 rfl (K.fA gC rfl (K.m0) rfl) (fun _ h => K.tl h) (by kernel_rfl) (by kernel_rfl) rfl ?_
 refine zN ?_
 refine K.sC 6 rfl (K.copyS (M := []) yB rfl rfl hH.sl (fun _ => rfl) (K.oneI _) (by omega) (by omega) (by rw [mdG_len, ow_len, List.length_replicate, neg_len]; simp only [List.length_cons, List.length_nil]; omega) (K.rp0)) (fun _ => fun _ h => K.tl h) (by kernel_rfl) rfl ?_
 rintro _ _
 refine zN ?_
 rw [Nat.zero_add 11, mdG_copy rfl ow_len (by rw [List.length_replicate]; omega), cop_tp (by omega)]
 refine zN ?_
 refine dd (K.dA (K.seq (sr (qm ?_))))
 refine sn (K.block ?_)
 refine K.loopW [26] [4, 27, 28, 29, 30, 31, 32, 33, 34] (fun vi L => ∃ k : Nat, vi = [.int .i64 (k : Int)] ∧ L = [K.blk b18 108 (mdG [.int .i64 m.W, .int .i64 m.D, .slice A m.hs.length c, .slice B m.ps.length d, .slice C m.ss.length e] (owK m 0) (tp m) (negK k)), K.blk b1 30 [.int .i64 m.W, .int .i64 m.D, .slice A m.hs.length c, .slice B m.ps.length d, .slice C m.ss.length e]] ∧ k ≤ 64) (fun vi => 64 - (intOf (K.nth vi 0)).toNat) ?_ ?_
 ·exact ⟨0, rfl, rfl, Nat.zero_le _⟩
 intro vi vr L hJ
 obtain ⟨k, rfl, rfl, hkn⟩ := hJ
 refine zY ?_
 refine sr (qp (K.lss rfl rfl) ?_)
 refine sn (K.seq ?_)
 refine K.cond rfl (fun ht27 => ?_) (fun ht27 => ?_)
 ·try replace ht27 := Kq.oT ht27
  have hk6 : k < 64 := by omega
  refine K.skip (K.dA (K.seq (K.block (sr (qm ?_)))))
  refine qa ?_
  refine sn (K.gA ?_)
  iterate 2 refine qm ?_
  refine qp (K.nilCheck rfl) ?_
  refine qp (K.aA fo_108_3 rfl) ?_
  refine K.mA (K.iB ar_106 rfl rfl (by omega) (by omega)) rfl ?_
  refine zN ?_
  refine qt (K.store_ix sz_3 rfl rfl (by rw [mdG_len, ow_len, tp_len, neg_len]; simp only [List.length_cons, List.length_nil]; omega) rfl (K.rp0)) ?_
  rw [show 0 + 75 + ((k : Int)).toNat * 1 = 75 + k by omega, mdG_pin rfl ow_len tp_len, neg_set hk6]
  refine zN ?_
  refine K.lA (K.kA (K.dA (K.gA (qp (K.tA rfl rfl (by omega)) ?_))))
  refine qm ?_
  refine K.lA ?_
  exact K.rA (L'' := [K.blk b18 108 (mdG [.int .i64 m.W, .int .i64 m.D, .slice A m.hs.length c, .slice B m.ps.length d, .slice C m.ss.length e] (owK m 0) (tp m) (negK (k + 1))), K.blk b1 30 [.int .i64 m.W, .int .i64 m.D, .slice A m.hs.length c, .slice B m.ps.length d, .slice C m.ss.length e]]) [.int .i64 ((k : Int) + 1)] ⟨k + 1, rfl, rfl, by omega⟩ (by simp [K.nth, intOf]; omega) (by repeat (first | exact List.Sublist.refl _ | apply List.Sublist.cons)) (by kernel_rfl)
 try replace ht27 := Kq.oF ht27
 have hk64 : 64 ≤ k := by omega
 refine K.exit (K.pA (K.pA (K.zA (K.dA (K.seq (K.seq ?_))))))
 rw [neg_end hk64]
 refine K.gA (qp (K.aA bC rfl) ?_)
 refine ql (K.fA lC rfl (K.m1) rfl) ?_
 refine qp (K.aB oC rfl) ?_
 refine qm ?_
 refine sn (K.block ?_)
 refine K.loopW [38] [5, 6, 39, 40, 41, 42, 43, 44, 45, 46, 47, 48, 49, 50, 51, 52, 53, 54, 55, 56, 57, 58, 59, 60, 61, 62, 63] (fun vi L => ∃ k : Nat, vi = [.int .i64 (k : Int)] ∧ L = [K.blk b18 108 (mdG [.int .i64 m.W, .int .i64 m.D, .slice A m.hs.length c, .slice B m.ps.length d, .slice C m.ss.length e] (owK m k) (tp m) (pnK m k)), K.blk b1 30 [.int .i64 m.W, .int .i64 m.D, .slice A m.hs.length c, .slice B m.ps.length d, .slice C m.ss.length e]] ∧ k ≤ m.ps.length) (fun vi => m.ps.length - (intOf (K.nth vi 0)).toNat) ?_ ?_
 ·exact ⟨0, rfl, rfl, Nat.zero_le _⟩
 intro vi vr L hJ
 obtain ⟨k, rfl, rfl, hkn⟩ := hJ
 refine zY ?_
 refine sr (qp (K.lss rfl rfl) ?_)
 refine sn (K.seq ?_)
 refine K.cond rfl (fun ht39 => ?_) (fun ht39 => ?_)
 ·try replace ht39 := Kq.oT ht39
  have hkp : k < m.ps.length := by omega
  have hf := g.fld hkp
  unfold fldS at hf
  refine K.skip (K.dA (K.seq (K.block (sr (qm ?_)))))
  refine K.vB (M := []) _ hP.sl oC rfl rfl rfl (by omega) rfl ?_
  intro p41 hp41
  refine zN ?_
  refine ql (K.uB ag_48 rfl (hp41.any) rfl) ?_
  refine qn (K.alloc zr_48) fun b6 => ?_
  refine qa ?_
  refine qt (K.vA sz_48 rfl rfl rfl rfl (K.rp0)) ?_
  refine sn (K.seq ?_)
  refine K.nB [7] uA ?_
  refine dp 0 rfl (K.move) ?_
  refine dp 1 rfl (K.move) ?_
  refine dp 2 rfl (K.aA fo_48_3 rfl) ?_
  refine dm 3 rfl (K.fA one_3 rfl (K.m0) rfl) ?_
  refine dp 4 rfl (K.nilCheck rfl) ?_
  refine dp 5 rfl (K.aA fo_108_1 rfl) ?_
  refine dp 6 rfl (K.iB ar_105 rfl rfl (by omega) (by omega)) ?_
  refine K.eC 7 rfl (K.store_ix sz_3 rfl rfl (by rw [mdG_len, ow_len, tp_len, pn_len]; simp only [List.length_cons, List.length_nil]; omega) rfl (K.rp1)) rfl (by kernel_rfl) rfl ?_
  intro _ _
  refine zN ?_
  rw [show 0 + 5 + ((k : Int)).toNat * 1 = 5 + k by omega, mdG_own rfl (by rw [ow_len]; omega), ow_set (by omega)]
  refine zN ?_
  refine dd (K.dA ?_)
  refine K.nB [13] uA ?_
  refine dp 0 rfl (K.move) ?_
  refine dp 1 rfl (K.aA fo_48_2 rfl) ?_
  refine dm 2 rfl (K.fA one_3 rfl (K.m0) rfl) ?_
  refine dp 3 rfl (K.aA fo_30_0 rfl) ?_
  refine dm 4 rfl (K.fA one_3 rfl (K.m2) rfl) ?_
  refine dp 5 rfl (K.mul_i64 rfl rfl (by omega)) ?_
  refine dp 6 rfl (K.aA fo_48_1 rfl) ?_
  refine dm 7 rfl (K.fA one_3 rfl (K.m0) rfl) ?_
  refine dp 8 rfl (K.tA rfl rfl (by omega)) ?_
  refine dp 9 rfl (K.move) ?_
  refine dp 10 rfl (K.nilCheck rfl) ?_
  refine dp 11 rfl (K.aA fo_108_3 rfl) ?_
  refine dp 12 rfl (K.iB ar_106 rfl rfl (by omega) (by omega)) ?_
  refine K.eC 13 rfl (K.store_ix sz_3 rfl rfl (by rw [mdG_len, ow_len, tp_len, pn_len]; simp only [List.length_cons, List.length_nil]; omega) rfl (K.rp1)) rfl (by kernel_rfl) rfl ?_
  intro _ _
  refine zN ?_
  rw [show 0 + 75 + ((m.ps.getD k default).y * m.W + (m.ps.getD k default).x).toNat * 1 = 75 + (fldS m k).toNat by unfold fldS; omega, mdG_pin rfl ow_len tp_len, pn_set g hkp]
  refine zN ?_
  refine dd (K.kA (K.dA (K.gA (qp (K.tA rfl rfl (by omega)) ?_))))
  refine qm ?_
  refine K.lA ?_
  exact K.rA (L'' := [K.blk b18 108 (mdG [.int .i64 m.W, .int .i64 m.D, .slice A m.hs.length c, .slice B m.ps.length d, .slice C m.ss.length e] (owK m (k + 1)) (tp m) (pnK m (k + 1))), K.blk b1 30 [.int .i64 m.W, .int .i64 m.D, .slice A m.hs.length c, .slice B m.ps.length d, .slice C m.ss.length e]]) [.int .i64 ((k : Int) + 1)] ⟨k + 1, rfl, rfl, by omega⟩ (by simp [K.nth, intOf]; omega) (by repeat (first | exact List.Sublist.refl _ | apply List.Sublist.cons)) (by kernel_rfl)
 try replace ht39 := Kq.oF ht39
 refine K.exit (K.pA (K.pA (K.zA (K.dA (sr (qm ?_))))))
 iterate 2 refine qa ?_
 refine sn (K.ret ?_)
 refine K.wA (fun w _ => K.qB rfl w) ?_
 have e0 : k = m.ps.length := by omega
 subst e0
 rw [mdG_mdl]
 exact K.rets_v b18 trivial rfl rfl (Kq.sc (List.nil_sublist _))

set_option maxRecDepth 100000 in
theorem e67 {m : Mod} {A B C : Option Addr} {c d e : Nat} {w : World} (hH : K.Rd w A 1 K.eI m.hs) (hP : K.Rd w B 5 eN m.ps) (hS : K.Rd w C 4 eS m.ss) (hn : m.hs.length ≤ 4611686018427387904) (hm : m.ps.length ≤ 4611686018427387904) (hk : m.ss.length ≤ 4611686018427387904) (hcd : m.ps.length ≤ d) (hc : (chk m).2.2 ≠ 0) :
  Calls Tryz.prog 48 [.agg #[.int .i64 m.W, .int .i64 m.D, .slice A m.hs.length c, .slice B m.ps.length d, .slice C m.ss.length e]].toArray w (K.Gives (.tuple #[.pointer none, .int .i64 (chk m).2.2]) w) := by
 refine K.enter (args := [.agg #[.int .i64 m.W, .int .i64 m.D, .slice A m.hs.length c, .slice B m.ps.length d, .slice C m.ss.length e]]) Tryz.func48 rfl (n := 64) rfl ?_
 refine zR ?_
 refine sr ?_
 refine qn (K.box) fun b1 => ?_
 iterate 2 refine qa ?_
 refine sn (K.seq (sr (ql (K.jA cC rfl (K.m0) rfl) ?_)))
 refine qc (K.nA cal_86 (fun F w hF hw => c16 (hH.pass hw) (hP.pass hw) (hS.pass hw) hn hm hk hcd (w := w))) ?_
 refine qm ?_
 iterate 3 refine qx ?_
 refine qa ?_
 refine sn (sr (qm ?_))
 refine qp (K.neq rfl rfl) ?_
 refine sn (K.yA (by exact congrArg Value.bool (decide_eq_true hc)) ?_)
 refine sr (qm ?_)
 iterate 2 refine qa ?_
 refine sn (K.ret (K.iA ?_))
 refine K.wA (fun w _ => K.qB rfl w) ?_
 exact K.gives rfl

end Go.Proofs.YtnhhfkgldoeifaaGreatDoor.Pn
end
section
namespace Go.Proofs.YtnhhfkgldoeifaaGreatDoor.Pn
open Go.RowKit Go
open Go.K (setd setn ev nth over cl eI eP eT setM setF)
attribute [local irreducible] K.blk K.row

set_option maxRecDepth 100000 in
theorem c101 {a b : Int} (w : World) (ha : -1000 ≤ a ∧ a ≤ 1000) (hb : -1000 ≤ b ∧ b ≤ 1000) :
  Calls Tryz.prog 115 [.int .i64 a, .int .i64 b].toArray w (K.Gives (.int .i64 (gcdS a b)) w) := by
 refine K.enter (args := [.int .i64 a, .int .i64 b]) Tryz.func115 rfl (n := 13) rfl ?_
 refine zR ?_
 refine sr (qa ?_)
 refine sn (K.seq (K.block ?_))
 refine K.loopW [0, 1] [5, 6, 7, 8, 9, 10] (fun vi L => ∃ a1 b1 : Int, vi = [.int .i64 a1, .int .i64 b1] ∧ L = [] ∧ (-1000 ≤ a1 ∧ a1 ≤ 1000) ∧ (-1000 ≤ b1 ∧ b1 ≤ 1000) ∧ gcdS a1 b1 = gcdS a b) (fun vi => (intOf (K.nth vi 1)).natAbs) ?_ ?_
 ·exact ⟨a, b, rfl, rfl, ha, hb, rfl⟩
 intro vi vr L hJ
 obtain ⟨a1, b1, rfl, rfl, h1, h2, he⟩ := hJ
 refine zY ?_
 refine K.seq (sr (qm ?_))
 refine qp (K.neq rfl rfl) ?_
 refine sn ?_
 refine K.cond rfl (fun ht6 => ?_) (fun ht6 => ?_)
 ·try replace ht6 := Kq.oT ht6
  refine K.skip (K.dA (K.block ?_))
  refine K.nB [] uA ?_
  refine dp 0 rfl (K.move) ?_
  refine dp 1 rfl (K.move) ?_
  refine dp 2 rfl (K.move) ?_
  refine dp 3 rfl (K.rem_t rfl rfl (by omega)) ?_
  refine dp 4 rfl (K.assign) ?_
  refine dp 5 rfl (K.assign) ?_
  refine dd (K.kA ?_)
  have h3 := tmod_lt (a := a1) ht6
  exact K.rA (L'' := []) [.int .i64 b1, .int .i64 (a1.tmod b1)] ⟨b1, a1.tmod b1, rfl, rfl, h2, by omega, by rw [gcd_tmod, he]⟩ h3 (List.nil_sublist _) (by kernel_rfl)
 try replace ht6 := Kq.oF ht6
 refine K.exit (K.pA (K.pA (K.zA (K.dA (sr ?_)))))
 iterate 2 refine qm ?_
 refine qp (K.neg_i64 rfl (by omega)) ?_
 refine qp (K.max_int rfl rfl) ?_
 refine qa ?_
 refine sn (K.ret (et ?_))
 have h0 : b1 = 0 := Decidable.not_not.1 ht6
 exact K.xA rfl (by rw [← he, h0, gcd_zero])

set_option maxRecDepth 100000 in
theorem c73 {m : Mod} {A B C : Option Addr} {c d e : Nat} {b : Nat} {l : List Int} {f : Int} {w : World} (hM : K.PtrL w [] ⟨b, 0, none⟩ (mdl m A B C c d e)) (g : Good m) (hl : LB l) (hf : 0 ≤ f ∧ f ≤ 63) :
  Calls Tryz.prog 76 [.pointer (some ⟨b, 0, none⟩), .agg #[iI (l.getD 0 default), iI (l.getD 1 default), iI (l.getD 2 default), iI (l.getD 3 default), iI (l.getD 4 default), iI (l.getD 5 default)], .int .i64 f].toArray w (K.Gives (.int .i64 (topS m l f)) w) := by
 refine K.enter (args := [.pointer (some ⟨b, 0, none⟩), .agg #[iI (l.getD 0 default), iI (l.getD 1 default), iI (l.getD 2 default), iI (l.getD 3 default), iI (l.getD 4 default), iI (l.getD 5 default)], .int .i64 f]) Tryz.func76 rfl (n := 29) rfl ?_
 refine zR ?_
 refine sr ?_
 refine qn (K.box) fun b4 => ?_
 refine qa ?_
 refine sn (K.seq (sr ?_))
 iterate 2 refine qm ?_
 refine qp (K.nilCheck rfl) ?_
 refine qp (K.aA fo_108_3 rfl) ?_
 refine K.mA (K.iB ar_106 rfl rfl (by omega) (by omega)) rfl ?_
 refine zN ?_
 refine ql (K.mB one_3 rfl hM.any (mdl_pin' hf)) ?_
 refine qa ?_
 refine sn (sr (qm ?_))
 refine qp (K.neq rfl rfl) ?_
 refine sn ?_
 refine K.cond rfl (fun ht15 => ?_) (fun ht15 => ?_)
 ·try replace ht15 := Kq.oT ht15
  refine K.seq ?_
  obtain ⟨i, hi, hin, _⟩ := pinV_some ht15
  rw [hi]
  dsimp only [pinV]
  have hgn := g.n
  have hh := g.hb f.toNat
  have hli := hl i
  refine K.nB [] uA ?_
  refine dp 0 rfl (K.move) ?_
  refine dp 1 rfl (K.move) ?_
  refine dp 2 rfl (K.nilCheck rfl) ?_
  refine dp 3 rfl (K.aA fo_108_2 rfl) ?_
  refine dp 4 rfl (K.iB ar_106 rfl rfl (by omega) (by omega)) ?_
  refine dm 5 rfl (K.mB one_3 rfl hM.any (mdl_top' hf)) ?_
  refine dp 6 rfl (K.move) ?_
  refine dp 7 rfl (K.iB ar_105 rfl rfl (by omega) (by omega)) ?_
  refine dm 8 rfl (K.mB one_3 rfl (K.PtrL.own' ((K.m0))) (ln_at' (l := l) (by omega))) ?_
  refine dp 9 rfl (K.tA rfl rfl (by omega)) ?_
  refine dp 10 rfl (K.assign) ?_
  refine dd (K.dA (K.ret (K.iA (et ?_))))
  exact K.xA rfl (by rw [topS_eq, hi])
 try replace ht15 := Kq.oF ht15
 refine K.skip (K.dA (sr ?_))
 iterate 2 refine qm ?_
 refine qp (K.nilCheck rfl) ?_
 refine qp (K.aA fo_108_2 rfl) ?_
 refine K.mA (K.iB ar_106 rfl rfl (by omega) (by omega)) rfl ?_
 refine zN ?_
 refine ql (K.mB one_3 rfl hM.any (mdl_top' hf)) ?_
 refine qa ?_
 refine sn (K.ret (et ?_))
 exact K.xA rfl (by rw [topS_eq, pinV_none ht15]; simp)

set_option maxRecDepth 100000 in
theorem c74 {m : Mod} {A B C : Option Addr} {c d e : Nat} {b : Nat} {l : List Int} {i : Nat} {w : World} (hM : K.PtrL w [] ⟨b, 0, none⟩ (mdl m A B C c d e)) (hP : K.Rd w B 5 eN m.ps) (g : Good m) (hl : LB l) (hi : i < m.ps.length) :
  Calls Tryz.prog 77 [.pointer (some ⟨b, 0, none⟩), .agg #[iI (l.getD 0 default), iI (l.getD 1 default), iI (l.getD 2 default), iI (l.getD 3 default), iI (l.getD 4 default), iI (l.getD 5 default)], .int .i64 (i : Int)].toArray w (K.Gives (.int .i64 (headS m l i)) w) := by
 have hgn := g.n
 have hli := hl i
 have hb := g.fld hi
 unfold fldS at hb
 have hh := g.hb ((m.ps.getD i default).y * m.W + (m.ps.getD i default).x).toNat
 have hm := g.n
 refine K.enter (args := [.pointer (some ⟨b, 0, none⟩), .agg #[iI (l.getD 0 default), iI (l.getD 1 default), iI (l.getD 2 default), iI (l.getD 3 default), iI (l.getD 4 default), iI (l.getD 5 default)], .int .i64 (i : Int)]) Tryz.func77 rfl (n := 33) rfl ?_
 refine zR ?_
 refine sr ?_
 refine qn (K.box) fun b4 => ?_
 refine qa ?_
 refine sn (sr (qm ?_))
 refine qp (K.nilCheck rfl) ?_
 refine qp (K.aA fo_108_0 rfl) ?_
 refine qp (K.aA bC rfl) ?_
 refine ql (K.mB lC rfl (hM.any) rfl) ?_
 refine qm ?_
 refine K.vB (M := []) _ hP.sl oC rfl rfl rfl (by omega) rfl ?_
 intro p14 hp14
 refine zN ?_
 refine ql (K.uB ag_48 rfl (hp14.any) rfl) ?_
 refine qn (K.alloc zr_48) fun b7 => ?_
 refine qt (K.vA sz_48 rfl rfl rfl rfl (K.rp0)) ?_
 refine sn (K.seq ?_)
 refine K.nB [] uA ?_
 refine dp 0 rfl (K.move) ?_
 refine dp 1 rfl (K.aA fo_48_2 rfl) ?_
 refine dm 2 rfl (K.fA one_3 rfl (K.m0) rfl) ?_
 refine dp 3 rfl (K.move) ?_
 refine dp 4 rfl (K.nilCheck rfl) ?_
 refine dp 5 rfl (K.aA fo_108_0 rfl) ?_
 refine dp 6 rfl (K.aA fo_30_0 rfl) ?_
 refine dm 7 rfl (K.mB one_3 rfl (hM.any) rfl) ?_
 refine dp 8 rfl (K.mul_i64 rfl rfl (by omega)) ?_
 refine dp 9 rfl (K.aA fo_48_1 rfl) ?_
 refine dm 10 rfl (K.fA one_3 rfl (K.m0) rfl) ?_
 refine dp 11 rfl (K.tA rfl rfl (by omega)) ?_
 refine dp 12 rfl (K.nilCheck rfl) ?_
 refine dp 13 rfl (K.aA fo_108_2 rfl) ?_
 refine dp 14 rfl (K.iB ar_106 rfl rfl (by omega) (by omega)) ?_
 refine dm 15 rfl (K.mB one_3 rfl hM.any (mdl_top' (by omega))) ?_
 refine dp 16 rfl (K.move) ?_
 refine dp 17 rfl (K.iB ar_105 rfl rfl (by omega) (by omega)) ?_
 refine dm 18 rfl (K.mB one_3 rfl (K.PtrL.own' ((K.m1))) (ln_at' (l := l) (by omega))) ?_
 refine dp 19 rfl (K.tA rfl rfl (by omega)) ?_
 refine dp 20 rfl (K.assign) ?_
 refine dd (K.dA (K.ret (et ?_)))
 exact K.gives rfl



set_option maxRecDepth 100000 in
theorem c72 {p : Addr} {x y : Int} {i : Int} (w : World) :
  Calls Tryz.prog 75 [.pointer (some p), .agg #[.int .i64 x, .int .i64 y], .int .i64 i].toArray w (K.Ret (fun _ : Nat × Nat × Nat => True) (fun r => .func (.func 114) #[] #[.pointer (some ⟨r.1, 0, none⟩), .pointer (some ⟨r.2.2, 0, none⟩), .pointer (some ⟨r.2.1, 0, none⟩)]) (fun r => [K.blk r.2.2 3 [.int .i64 i], K.blk r.2.1 110 [.int .i64 x, .int .i64 y], K.blk r.1 98 [.pointer (some p)]]) w) := by
 refine K.enter (args := [.pointer (some p), .agg #[.int .i64 x, .int .i64 y], .int .i64 i]) Tryz.func75 rfl (n := 5) rfl ?_
 refine zR ?_
 refine sr ?_
 refine qn (K.box) fun b3 => ?_
 refine qn (K.box) fun b4 => ?_
 refine qn (K.box) fun b5 => ?_
 refine qa ?_
 refine sn (sr (K.mA (K.mkFunc) rfl ?_))
 refine zN ?_
 refine qa ?_
 refine sn (K.ret (et ?_))
 exact K.rets_v (b3, b4, b5) trivial rfl rfl Kq.s0

set_option maxRecDepth 100000 in
theorem c63 {p : Addr} {l : List Int} {x y eye i : Int} (w : World) :
  Calls Tryz.prog 74 [.pointer (some p), .agg #[iI (l.getD 0 default), iI (l.getD 1 default), iI (l.getD 2 default), iI (l.getD 3 default), iI (l.getD 4 default), iI (l.getD 5 default)], .agg #[.int .i64 x, .int .i64 y], .int .i64 eye, .int .i64 i].toArray w (K.Ret (fun _ : Nat × Nat × Nat × Nat × Nat => True) (fun r => .func (.func 113) #[] #[.pointer (some ⟨r.1, 0, none⟩), .pointer (some ⟨r.2.1, 0, none⟩), .pointer (some ⟨r.2.2.2.2, 0, none⟩), .pointer (some ⟨r.2.2.1, 0, none⟩), .pointer (some ⟨r.2.2.2.1, 0, none⟩)]) (fun r => [K.blk r.2.2.2.2 3 [.int .i64 i], K.blk r.2.2.2.1 3 [.int .i64 eye], K.blk r.2.2.1 110 [.int .i64 x, .int .i64 y], K.blk r.2.1 105 (ln l), K.blk r.1 98 [.pointer (some p)]]) w) := by
 refine K.enter (args := [.pointer (some p), .agg #[iI (l.getD 0 default), iI (l.getD 1 default), iI (l.getD 2 default), iI (l.getD 3 default), iI (l.getD 4 default), iI (l.getD 5 default)], .agg #[.int .i64 x, .int .i64 y], .int .i64 eye, .int .i64 i]) Tryz.func74 rfl (n := 7) rfl ?_
 refine zR ?_
 refine sr ?_
 refine qn (K.box) fun b5 => ?_
 refine qn (K.box) fun b6 => ?_
 refine qn (K.box) fun b7 => ?_
 refine qn (K.box) fun b8 => ?_
 refine qn (K.box) fun b9 => ?_
 refine qa ?_
 refine sn (sr (K.mA (K.mkFunc) rfl ?_))
 refine zN ?_
 refine qa ?_
 refine sn (K.ret (et ?_))
 exact K.rets_v (b5, b6, b7, b8, b9) trivial rfl rfl Kq.s0

set_option maxRecDepth 100000 in
theorem c64 {m : Mod} {A B C : Option Addr} {c d e : Nat} {b s : Nat} {w : World} (hM : K.PtrL w [] ⟨b, 0, none⟩ (mdl m A B C c d e)) (hS : K.Rd w C 4 eS m.ss) (hs : s < m.ss.length) :
  Calls Tryz.prog 52 [.pointer (some ⟨b, 0, none⟩), .int .i64 (s : Int)].toArray w (K.Gives (.agg #[.int .i64 (m.ss.getD s default).x, .int .i64 (m.ss.getD s default).y]) w) := by
 refine K.enter (args := [.pointer (some ⟨b, 0, none⟩), .int .i64 (s : Int)]) Tryz.func52 rfl (n := 22) rfl ?_
 refine zR ?_
 refine sr ?_
 refine qn (K.alloc zr_110) fun b4 => ?_
 refine sn (K.seq ?_)
 refine K.draw_drop 1 [19] uA ?_
 refine dp 0 rfl (K.move) ?_
 refine dp 1 rfl (K.nilCheck rfl) ?_
 refine dp 2 rfl (K.aA fo_108_0 rfl) ?_
 refine dp 3 rfl (K.aA fo_30_4 rfl) ?_
 refine K.aC 4 rfl (K.mB one_28 rfl (hM.any) rfl) (fun _ h => K.tl h) (by kernel_rfl) (by kernel_rfl) rfl ?_
 refine zN ?_
 refine dp 5 rfl (K.move) ?_
 refine K.d_ix (M := []) 6 _ rfl hS.sl tC rfl rfl rfl (by omega) (by kernel_rfl) rfl ?_
 intro p11 hp11
 refine zN ?_
 refine dp 7 rfl (K.fieldAddr fo_62_0 rfl) ?_
 refine K.aC 8 rfl (K.load1 one_3 rfl ((K.PtrL.fld hp11 (k := 0)).any)) (fun _ h => K.tl h) (by kernel_rfl) (by kernel_rfl) rfl ?_
 refine zN ?_
 refine dp 9 rfl (K.move) ?_
 refine dp 10 rfl (K.nilCheck rfl) ?_
 refine dp 11 rfl (K.aA fo_108_0 rfl) ?_
 refine dp 12 rfl (K.aA fo_30_4 rfl) ?_
 refine K.aC 13 rfl (K.mB one_28 rfl (hM.any) rfl) (fun _ h => K.tl h) (by kernel_rfl) (by kernel_rfl) rfl ?_
 refine zN ?_
 refine dp 14 rfl (K.move) ?_
 refine K.d_ix (M := []) 15 _ rfl hS.sl tC rfl rfl rfl (by omega) (by kernel_rfl) rfl ?_
 intro p20 hp20
 refine zN ?_
 refine dp 16 rfl (K.fieldAddr fo_62_1 rfl) ?_
 refine K.aC 17 rfl (K.load1 one_3 rfl ((K.PtrL.fld hp20 (k := 1)).any)) (fun _ h => K.tl h) (by kernel_rfl) (by kernel_rfl) rfl ?_
 refine zN ?_
 refine dp 18 rfl (K.build (bl80 _ _)) ?_
 refine K.eC 19 rfl (K.vA sz_110 rfl rfl rfl rfl (K.rp0)) rfl (by kernel_rfl) rfl ?_
 intro _ _
 refine zN ?_
 refine dd (K.dA (K.ret ?_))
 refine K.wA (fun w hw => K.res_c rfl rfl (K.run_cellA ag_110 rfl (K.m0) rfl w hw)) ?_
 exact K.gives rfl

end Go.Proofs.YtnhhfkgldoeifaaGreatDoor.Pn
end
section
namespace Go.Proofs.YtnhhfkgldoeifaaGreatDoor.Pn
open Go.RowKit Go
open Go.K (setd setn ev nth over cl eI eP eT setM setF)
attribute [local irreducible] K.blk K.row
theorem bl114 (a b c : Int) : K.Bl Tryz.prog 141 [(0, .int .i64 a), (1, .int .i64 b), (2, .int .i64 c)] (.agg #[.int .i64 a, .int .i64 b, .int .i64 c]) := fun w => by kernel_rfl
theorem c101g {m : Mod} {x y : Int} {i : Nat} (w : World) (ha : -1000 ≤ (m.ps.getD i default).x - x ∧ (m.ps.getD i default).x - x ≤ 1000) (hb : -1000 ≤ (m.ps.getD i default).y - y ∧ (m.ps.getD i default).y - y ≤ 1000) : Calls Tryz.prog 115 [.int .i64 ((m.ps.getD i default).x - x), .int .i64 ((m.ps.getD i default).y - y)].toArray w (K.Gives (.int .i64 (gS m x y i)) w) := c101 w ha hb

set_option maxRecDepth 100000 in
set_option maxHeartbeats 1000000 in
theorem c100 {m : Mod} {A B C : Option Addr} {c d e b i : Nat} {x y : Int} {p1 p2 p3 : Addr} (hW : Way m x y i) :
  R.IterC Tryz.prog 114 [] [.pointer (some p1), .pointer (some p2), .pointer (some p3)] (fun f w => R.Own1 f w p1 [.pointer (some ⟨b, 0, none⟩)] ∧ R.Own1 f w p2 [.int .i64 (i : Int)] ∧ R.Own1 f w p3 [.int .i64 x, .int .i64 y] ∧ R.Own1 f w ⟨b, 0, none⟩ (mdl m A B C c d e) ∧ K.Rd w B 5 eN m.ps) (fun s : Int × Int × Int => Value.agg #[.int .i64 s.1, .int .i64 s.2.1, .int .i64 s.2.2]) (stepsS m x y i) := by
 intro lr B0 J Jx f w hB hJa hJxa hf hR hJ0 hpre
 obtain ⟨h1, h2, h3, h4, hP⟩ := hpre
 have hM := h4.ptr
 have hi := hW.i
 refine R.enter (args := [.func (.yield lr) #[] #[], .pointer (some p1), .pointer (some p2), .pointer (some p3)]) Tryz.func114 rfl (m := 79) rfl ?_
 refine zR ?_
 refine R.seq ?_
 refine R.nB [9] uA rfl ?_
 refine dm 0 rfl (K.load1 one_98 rfl (h1.ptr.any)) ?_
 refine dp 1 rfl (K.nilCheck rfl) ?_
 refine dp 2 rfl (K.aA fo_108_0 rfl) ?_
 refine dp 3 rfl (K.aA bC rfl) ?_
 refine dm 4 rfl (K.mB lC rfl (hM.any) rfl) ?_
 refine dm 5 rfl (K.load1 one_3 rfl (h2.ptr.any)) ?_
 refine K.d_ix (M := []) 6 _ rfl hP.sl oC rfl rfl rfl (by omega) (by kernel_rfl) rfl ?_
 intro p15 hp15
 refine zN ?_
 refine dm 7 rfl (K.uB ag_48 rfl (hp15.any) rfl) ?_
 refine K.d_new 8 rfl (K.alloc zr_48) (fun _ h => h) (by kernel_rfl) rfl ?_
 intro b5
 refine zN ?_
 refine K.eC 9 rfl (K.vA sz_48 rfl rfl rfl rfl (K.rp0)) rfl (by kernel_rfl) rfl ?_
 intro _ _
 refine zN ?_
 refine dd ?_
 refine R.out ?_
 refine R.dA ?_
 refine R.seq ?_
 have hp := hW.p
 have hgb := hW.gb
 have hx0 := hW.x
 have hy0 := hW.y
 refine R.gA rfl ?_
 refine qp (K.aA fo_48_1 rfl) ?_
 refine ql (K.fA one_3 rfl (K.m0) rfl) ?_
 refine qp (K.fieldAddr fo_110_0 rfl) ?_
 refine ql (K.load1 one_3 rfl ((K.PtrL.fld h3.ptr (k := 0)).any)) ?_
 refine qp (K.oB rfl rfl (by omega)) ?_
 refine qp (K.aA fo_48_2 rfl) ?_
 refine ql (K.fA one_3 rfl (K.m0) rfl) ?_
 refine qp (K.fieldAddr fo_110_1 rfl) ?_
 refine ql (K.load1 one_3 rfl ((K.PtrL.fld h3.ptr (k := 1)).any)) ?_
 refine qp (K.oB rfl rfl (by omega)) ?_
 refine qc (K.nA cal_115 (fun F w hF hw => c101g w (by omega) (by omega))) ?_
 refine qa ?_
 refine K.lA ?_
 refine R.out ?_
 refine R.dA ?_
 refine R.seq ?_
 refine R.gA rfl ?_
 refine qa ?_
 refine K.lA ?_
 refine R.out ?_
 refine R.dA ?_
 refine R.block ?_
 refine R.loopY [7] [8, 28, 29, 30, 31, 32, 33, 34, 35, 36, 37, 38, 39, 40, 41, 42, 43, 44, 45, 46, 47, 48, 49, 50, 51, 52, 53, 54, 55, 56, 57, 58, 59, 60, 61, 62, 63, 64, 65, 66, 67, 68, 69, 70, 71, 72, 73, 74, 75, 76, 77, 78, 79, 80, 81, 82] (fun vi W => ∃ (k : Nat) (f1 : Nat → Prop), vi = [.int .i64 ((k : Int) + 1)] ∧ (k : Int) ≤ (gS m x y i) ∧ (k = 0 ∨ (k : Int) + 1 ≤ (gS m x y i)) ∧ J (stK m x y i k).length f1 W ∧ (∀ i, f1 i → i < W.heap.size) ∧ B0 ≤ b5 ∧ R.Own1 f1 W p1 [.pointer (some ⟨b, 0, none⟩)] ∧ R.Own1 f1 W p3 [.int .i64 x, .int .i64 y] ∧ R.Own1 f1 W ⟨b, 0, none⟩ (mdl m A B C c d e) ∧ R.Own1 f1 W ⟨b5, 0, none⟩ [.string (m.ps.getD i default).nm, .int .i64 (m.ps.getD i default).x, .int .i64 (m.ps.getD i default).y, .int .i64 (m.ps.getD i default).len, .int .i64 (m.ps.getD i default).most]) (fun vi => 30 - (intOf (K.nth vi 0)).toNat) ?_ ?_
 ·intro w1 hw1
  exact ⟨0, f, rfl, hgb.1, .inl rfl, hJa.below hJ0 hf hB hw1.1, fun i hi => Nat.lt_of_lt_of_le (hf i hi) hw1.1.size, Nat.le_trans hB (K.blk_own hw1 K.m0), h1.keep (R.Keep.below hw1.1), h3.keep (R.Keep.below hw1.1), h4.keep (R.Keep.below hw1.1), R.Own1.blk hw1 K.m0 hf⟩
 intro vi vr W hJ
 obtain ⟨k, f1, rfl, hkg, hk1, hJ1, hfb, hB5, h1, h3, hMo, h5⟩ := hJ
 have hB1 : B0 ≤ W.heap.size := Nat.le_of_lt (Nat.lt_of_le_of_lt hB5 h5.1)
 have hM := hMo.ptr
 have hgb := hW.gb
 refine zY ?_
 refine R.seq ?_
 refine R.seq ?_
 refine R.gA rfl ?_
 iterate 2 refine qm ?_
 refine qp (K.lss rfl rfl) ?_
 refine K.lA ?_
 refine R.out ?_
 refine R.dA ?_
 refine R.cond rfl (fun ht30 => ?_) (fun ht30 => ?_)
 ·try replace ht30 := Kq.oT ht30
  have ha := hW.at (k := k) (by omega)
  have hdx := dv_bd (gS_x (m := m) (x := x) (y := y) (i := i)) (by omega) (by omega)
  have hdy := dv_bd (gS_y (m := m) (x := x) (y := y) (i := i)) (by omega) (by omega)
  refine R.skip ?_
  refine R.dA ?_
  refine R.seq ?_
  refine R.block ?_
  refine R.seq ?_
  refine R.nB [26] uA rfl ?_
  refine dp 0 rfl (K.fieldAddr fo_110_0 rfl) ?_
  refine dm 1 rfl (K.load1 one_3 rfl ((K.PtrL.fld h3.ptr (k := 0)).any)) ?_
  refine dp 2 rfl (K.aA fo_48_1 rfl) ?_
  refine dm 3 rfl (K.mB one_3 rfl (h5.ptr.any) rfl) ?_
  refine dp 4 rfl (K.fieldAddr fo_110_0 rfl) ?_
  refine dm 5 rfl (K.load1 one_3 rfl ((K.PtrL.fld h3.ptr (k := 0)).any)) ?_
  refine dp 6 rfl (K.oB rfl rfl (by omega)) ?_
  refine dp 7 rfl (K.move) ?_
  refine dp 8 rfl (K.Pure.eq (K.quo_t rfl rfl (by omega) (by omega)) (show _ = Value.int .i64 (((m.ps.getD i default).x - x) / (gS m x y i)) from by rw [way_quo gS_x])) ?_
  refine dp 9 rfl (K.move) ?_
  refine dp 10 rfl (K.mul_i64 rfl rfl (by omega)) ?_
  refine dp 11 rfl (K.tA rfl rfl (by omega)) ?_
  refine dp 12 rfl (K.fieldAddr fo_110_1 rfl) ?_
  refine dm 13 rfl (K.load1 one_3 rfl ((K.PtrL.fld h3.ptr (k := 1)).any)) ?_
  refine dp 14 rfl (K.aA fo_48_2 rfl) ?_
  refine dm 15 rfl (K.mB one_3 rfl (h5.ptr.any) rfl) ?_
  refine dp 16 rfl (K.fieldAddr fo_110_1 rfl) ?_
  refine dm 17 rfl (K.load1 one_3 rfl ((K.PtrL.fld h3.ptr (k := 1)).any)) ?_
  refine dp 18 rfl (K.oB rfl rfl (by omega)) ?_
  refine dp 19 rfl (K.move) ?_
  refine dp 20 rfl (K.Pure.eq (K.quo_t rfl rfl (by omega) (by omega)) (show _ = Value.int .i64 (((m.ps.getD i default).y - y) / (gS m x y i)) from by rw [way_quo gS_y])) ?_
  refine dp 21 rfl (K.move) ?_
  refine dp 22 rfl (K.mul_i64 rfl rfl (by omega)) ?_
  refine dp 23 rfl (K.tA rfl rfl (by omega)) ?_
  refine dp 24 rfl (K.build (bl80 _ _)) ?_
  refine K.d_new 25 rfl (K.alloc zr_110) (fun _ h => h) (by kernel_rfl) rfl ?_
  intro b8
  refine zN ?_
  refine K.eC 26 rfl (K.vA sz_110 rfl rfl rfl rfl (K.rp0)) rfl (by kernel_rfl) rfl ?_
  intro _ _
  refine zN ?_
  refine dd ?_
  refine R.out ?_
  refine R.dA ?_
  refine R.seq ?_
  refine R.zdraw 22 uA rfl ?_
  refine R.z_mem 0 [0, 1, 2, 3, 5, 6, 7, 8, 9, 10, 11, 12, 13, 14, 15, 16, 17, 18, 19, 20, 21, 22, 23, 24] rfl (K.load1 one_98 rfl (h1.ptr.any)) (fun _ h => h) (by kernel_rfl) (by kernel_rfl) rfl ?_
  refine zN ?_
  refine R.nC 1 [1, 2, 3, 5, 6, 7, 8, 9, 10, 11, 12, 13, 14, 15, 16, 17, 18, 19, 20, 21, 22, 23, 24] rfl (K.nilCheck rfl) (fun _ h => h) (by kernel_rfl) (by kernel_rfl) rfl ?_
  refine zn ?_
  refine R.nC 2 [2, 3, 5, 6, 7, 8, 9, 10, 11, 12, 13, 14, 15, 16, 17, 18, 19, 20, 21, 22, 23, 24] rfl (K.aA fo_108_0 rfl) (fun _ h => h) (by kernel_rfl) (by kernel_rfl) rfl ?_
  refine zn ?_
  refine R.z_mem 3 [3, 5, 6, 7, 8, 9, 10, 11, 12, 13, 14, 15, 16, 17, 18, 19, 20, 21, 22, 23, 24] rfl (K.uB cC rfl (K.PtrL.lit (hM.any) (k := 0)) rfl) (fun _ h => h) (by kernel_rfl) (by kernel_rfl) rfl ?_
  refine zN ?_
  refine R.z_mem 4 [4, 5, 6, 7, 8, 9, 10, 11, 12, 13, 14, 15, 16, 17, 18, 19, 20, 21, 22, 23, 24] rfl (K.jA ag_110 rfl (K.m0) rfl) (fun _ h => h) (by kernel_rfl) (by kernel_rfl) rfl ?_
  refine zN ?_
  refine R.z_call 5 rfl rfl (K.nA cal_80 (fun F w hF hw => c56 hW.g.w hW.g.d)) (fun _ h => h) (by kernel_rfl) rfl ?_
  refine zN ?_
  refine R.nC 6 [6, 7, 8, 9, 10, 11, 12, 13, 14, 15, 16, 17, 18, 19, 20, 21, 22, 23, 24] rfl (K.move) (fun _ h => h) (by kernel_rfl) (by kernel_rfl) rfl ?_
  refine zn ?_
  refine R.zsplit 64 rfl (fun hg64 => ?_) (fun hg64 => ?_)
  ·try replace hg64 := Kq.oT hg64
   have hss := st1_some (m := m) (x := x) (y := y) (i := i) (k := k) hg64
   have hfd := fld_bd hW.g.w hW.g.d hg64
   refine R.nC 7 [7, 22, 23, 24] rfl (K.move) (fun _ h => h) (by kernel_rfl) (by kernel_rfl) rfl ?_
   refine zn ?_
   refine R.nC 8 [8, 9, 15, 18, 21, 22, 23, 24] rfl (K.aA fo_110_1 rfl) (fun _ h => h) (by kernel_rfl) (by kernel_rfl) rfl ?_
   refine zn ?_
   refine R.z_mem 9 [9, 15, 18, 21, 22, 23, 24] rfl (K.fA one_3 rfl (K.m0) rfl) (fun _ h => h) (by kernel_rfl) (by kernel_rfl) rfl ?_
   refine zN ?_
   refine R.z_mem 10 [10, 11, 12, 13, 14, 15, 18, 21, 22, 23, 24] rfl (K.load1 one_98 rfl (h1.ptr.any)) (fun _ h => h) (by kernel_rfl) (by kernel_rfl) rfl ?_
   refine zN ?_
   refine R.nC 11 [11, 12, 13, 14, 15, 18, 21, 22, 23, 24] rfl (K.nilCheck rfl) (fun _ h => h) (by kernel_rfl) (by kernel_rfl) rfl ?_
   refine zn ?_
   refine R.nC 12 [12, 13, 14, 15, 18, 21, 22, 23, 24] rfl (K.aA fo_108_0 rfl) (fun _ h => h) (by kernel_rfl) (by kernel_rfl) rfl ?_
   refine zn ?_
   refine R.nC 13 [13, 14, 15, 18, 21, 22, 23, 24] rfl (K.aA fo_30_0 rfl) (fun _ h => h) (by kernel_rfl) (by kernel_rfl) rfl ?_
   refine zn ?_
   refine R.z_mem 14 [14, 15, 18, 21, 22, 23, 24] rfl (K.mB one_3 rfl (hM.any) rfl) (fun _ h => h) (by kernel_rfl) (by kernel_rfl) rfl ?_
   refine zN ?_
   refine R.nC 15 [15, 18, 21, 22, 23, 24] rfl (K.mul_i64 rfl rfl (by omega)) (fun _ h => h) (by kernel_rfl) (by kernel_rfl) rfl ?_
   refine zn ?_
   refine R.nC 16 [16, 17, 18, 21, 22, 23, 24] rfl (K.aA fo_110_0 rfl) (fun _ h => h) (by kernel_rfl) (by kernel_rfl) rfl ?_
   refine zn ?_
   refine R.z_mem 17 [17, 18, 21, 22, 23, 24] rfl (K.fA one_3 rfl (K.m0) rfl) (fun _ h => h) (by kernel_rfl) (by kernel_rfl) rfl ?_
   refine zN ?_
   refine R.nC 18 [18, 21, 22, 23, 24] rfl (K.tA rfl rfl (by omega)) (fun _ h => h) (by kernel_rfl) (by kernel_rfl) rfl ?_
   refine zn ?_
   refine R.nC 19 [19, 21, 22, 23, 24] rfl (K.move) (fun _ h => h) (by kernel_rfl) (by kernel_rfl) rfl ?_
   refine zn ?_
   refine R.nC 20 [20, 21, 22, 23, 24] rfl (K.move) (fun _ h => h) (by kernel_rfl) (by kernel_rfl) rfl ?_
   refine zn ?_
   refine R.nC 21 [21, 22, 23, 24] rfl (K.build (bl114 _ _ _)) (fun _ h => h) (by kernel_rfl) (by kernel_rfl) rfl ?_
   refine zN ?_
   refine R.z_yield rfl rfl rfl (by kernel_rfl) rfl (fun w1 hw1 => R.yield_step2 hR (stK_at hss (n := (gS m x y i).toNat - 1) (by omega)) (hJa.below hJ1 hfb hB1 hw1.1)) ?_
   intro w1 hw1 bb w2 hst
   refine zN ?_
   first | refine R.y_pure 23 rfl (by kernel_rfl) (K.fC rfl) rfl rfl ?_ | refine R.y_pure 23 rfl (by kernel_rfl) (K.not_ rfl) rfl rfl ?_
   refine zN ?_
   refine R.y_pure 24 rfl (by kernel_rfl) (K.sA rfl) rfl rfl ?_
   refine zn ?_
   refine R.y_done (by kernel_rfl) ?_
   refine R.dA ?_
   refine R.cond rfl (fun ht82 => ?_) (fun ht82 => ?_)
   ·try replace ht82 := Kq.oT ht82
    refine R.ret ?_
    refine R.qA ?_
    refine R.iA (R.iA ?_)
    refine R.qA ?_
    refine R.wA (fun w _ => K.rB rfl w) ?_
    intro w3 hw3
    refine ⟨⟨_, rfl⟩, .inr ?_⟩
    have hbf : bb = false := by simpa using ht82
    subst hbf
    rcases hst with ⟨h, _⟩ | ⟨_, k2, f2, hk2, hJ2, hkp, _, hf2⟩
    ·cases h
    have hB2 : B0 ≤ w2.heap.size := Nat.le_of_lt (Nat.lt_of_le_of_lt hB5 ((h5.keep ((R.Keep.below (f := f1) hw1.1).trans hkp)).1))
    exact ⟨k2, f2, hk2, hJxa.below hJ2 hf2 hB2 hw3.1⟩
   try replace ht82 := Kq.oF ht82
   refine R.skip ?_
   refine R.kA ?_
   refine R.dA ?_
   refine R.gA rfl ?_
   refine qm ?_
   refine qp (K.tA rfl rfl (by omega)) ?_
   refine qa ?_
   refine K.lA ?_
   refine R.out ?_
   refine R.roundY [.int .i64 ((k : Int) + 1 + 1)] (fun w4 hw4 => ?_) (by simp [K.nth, intOf]; omega) (by kernel_rfl)
   have hbt : bb = true := by simpa using ht82
   subst hbt
   rcases hst with ⟨_, f2, hJ2, hk2, _, hf2⟩ | ⟨h, _⟩
   case inr => cases h
   have ek := ((R.Keep.below (f := f1) hw1.1).trans hk2).trans (R.Keep.below (f := f2) hw4.1)
   have hB2 : B0 ≤ w2.heap.size := Nat.le_of_lt (Nat.lt_of_le_of_lt hB5 ((h5.keep ((R.Keep.below (f := f1) hw1.1).trans hk2)).1))
   refine ⟨k + 1, f2, by rw [show (((k + 1 : Nat) : Int) + 1) = (k : Int) + 1 + 1 by omega], by omega, .inr (by omega), ?_, fun i hi => Nat.lt_of_lt_of_le (hf2 i hi) hw4.1.size, hB5, h1.keep ek, h3.keep ek, hMo.keep ek, h5.keep ek⟩
   rw [stK_some hss, List.length_append]
   exact hJa.below hJ2 hf2 hB2 hw4.1
  try replace hg64 := Kq.oF hg64
  refine R.z_skip 7 [7, 22, 23, 24] rfl (fun _ h => h) (by kernel_rfl) (by kernel_rfl) rfl ?_
  refine zN ?_
  refine R.z_skip 8 [8, 9, 15, 18, 21, 22, 23, 24] rfl (fun _ h => h) (by kernel_rfl) (by kernel_rfl) rfl ?_
  refine zN ?_
  refine R.z_skip 9 [9, 15, 18, 21, 22, 23, 24] rfl (fun _ h => h) (by kernel_rfl) (by kernel_rfl) rfl ?_
  refine zN ?_
  refine R.z_skip 10 [10, 11, 12, 13, 14, 15, 18, 21, 22, 23, 24] rfl (fun _ h => h) (by kernel_rfl) (by kernel_rfl) rfl ?_
  refine zN ?_
  refine R.z_skip 11 [11, 12, 13, 14, 15, 18, 21, 22, 23, 24] rfl (fun _ h => h) (by kernel_rfl) (by kernel_rfl) rfl ?_
  refine zN ?_
  refine R.z_skip 12 [12, 13, 14, 15, 18, 21, 22, 23, 24] rfl (fun _ h => h) (by kernel_rfl) (by kernel_rfl) rfl ?_
  refine zN ?_
  refine R.z_skip 13 [13, 14, 15, 18, 21, 22, 23, 24] rfl (fun _ h => h) (by kernel_rfl) (by kernel_rfl) rfl ?_
  refine zN ?_
  refine R.z_skip 14 [14, 15, 18, 21, 22, 23, 24] rfl (fun _ h => h) (by kernel_rfl) (by kernel_rfl) rfl ?_
  refine zN ?_
  refine R.z_skip 15 [15, 18, 21, 22, 23, 24] rfl (fun _ h => h) (by kernel_rfl) (by kernel_rfl) rfl ?_
  refine zN ?_
  refine R.z_skip 16 [16, 17, 18, 21, 22, 23, 24] rfl (fun _ h => h) (by kernel_rfl) (by kernel_rfl) rfl ?_
  refine zN ?_
  refine R.z_skip 17 [17, 18, 21, 22, 23, 24] rfl (fun _ h => h) (by kernel_rfl) (by kernel_rfl) rfl ?_
  refine zN ?_
  refine R.z_skip 18 [18, 21, 22, 23, 24] rfl (fun _ h => h) (by kernel_rfl) (by kernel_rfl) rfl ?_
  refine zN ?_
  refine R.z_skip 19 [19, 21, 22, 23, 24] rfl (fun _ h => h) (by kernel_rfl) (by kernel_rfl) rfl ?_
  refine zN ?_
  refine R.z_skip 20 [20, 21, 22, 23, 24] rfl (fun _ h => h) (by kernel_rfl) (by kernel_rfl) rfl ?_
  refine zN ?_
  refine R.z_skip 21 [21, 22, 23, 24] rfl (fun _ h => h) (by kernel_rfl) (by kernel_rfl) rfl ?_
  refine zN ?_
  refine R.z_none rfl (by kernel_rfl) rfl ?_
  refine zN ?_
  refine R.y_skip 23 rfl (by kernel_rfl) rfl ?_
  refine zN ?_
  refine R.y_pure 24 rfl (by kernel_rfl) (K.dB rfl) rfl rfl ?_
  refine zn ?_
  refine R.y_done (by kernel_rfl) ?_
  refine R.dA ?_
  refine R.oA rfl ?_
  refine R.skip ?_
  refine R.kA ?_
  refine R.dA ?_
  refine R.gA rfl ?_
  refine qm ?_
  refine qp (K.tA rfl rfl (by omega)) ?_
  refine qa ?_
  refine K.lA ?_
  refine R.out ?_
  refine R.roundY [.int .i64 ((k : Int) + 1 + 1)] (fun w4 hw4 => ?_) (by simp [K.nth, intOf]; omega) (by kernel_rfl)
  have ek := R.Keep.below (f := f1) hw4.1
  refine ⟨k + 1, f1, by rw [show (((k + 1 : Nat) : Int) + 1) = (k : Int) + 1 + 1 by omega], by omega, .inr (by omega), ?_, fun i hi => Nat.lt_of_lt_of_le (hfb i hi) hw4.1.size, hB5, h1.keep ek, h3.keep ek, hMo.keep ek, h5.keep ek⟩
  rw [stK_none (st1_none hg64)]
  exact hJa.below hJ1 hfb hB1 hw4.1
 try replace ht30 := Kq.oF ht30
 refine R.exit ?_
 refine R.pA (R.pA (R.zA ?_))
 refine R.end_normal (fun w _ => K.rB rfl w) ?_
 intro w3 hw3
 refine ⟨⟨_, rfl⟩, .inl ⟨f1, ?_⟩⟩
 have e0 : k = (gS m x y i).toNat - 1 := by omega
 rw [stepsS_eq, ← e0]
 exact hJa.below hJ1 hfb hB1 hw3.1

end Go.Proofs.YtnhhfkgldoeifaaGreatDoor.Pn
end
section
namespace Go.Proofs.YtnhhfkgldoeifaaGreatDoor.Pn
open Go.RowKit Go
open Go.K (setd setn ev nth over cl eI eP eT setM setF)
attribute [local irreducible] K.blk K.row

set_option maxRecDepth 100000 in
set_option maxHeartbeats 1000000 in
theorem c96 {m : Mod} {A B C : Option Addr} {c d e b i : Nat} {l : List Int} {x y eye : Int} {p1 p2 p3 p4 p5 : Addr} (hW : Way m x y i) (hl : LB l) (he : 0 ≤ eye ∧ eye ≤ 3000) :
  R.IterC Tryz.prog 113 [] [.pointer (some p1), .pointer (some p2), .pointer (some p3), .pointer (some p4), .pointer (some p5)] (fun f w => R.Own1 f w p1 [.pointer (some ⟨b, 0, none⟩)] ∧ R.Own1 f w p2 (ln l) ∧ R.Own1 f w p3 [.int .i64 (i : Int)] ∧ R.Own1 f w p4 [.int .i64 x, .int .i64 y] ∧ R.Own1 f w p5 [.int .i64 eye] ∧ R.Own1 f w ⟨b, 0, none⟩ (mdl m A B C c d e) ∧ K.Rd w B 5 eN m.ps) (fun n : Int => Value.int .i64 n) (hidesS m l x y eye i) := by
 intro lr B0 J Jx f w hB hJa hJxa hf hR hJ0 hpre
 obtain ⟨h1, h2, h3, h4, h5, hMo, hP⟩ := hpre
 refine R.enter (args := [.func (.yield lr) #[] #[], .pointer (some p1), .pointer (some p2), .pointer (some p3), .pointer (some p4), .pointer (some p5)]) Tryz.func113 rfl (m := 40) rfl ?_
 refine zR ?_
 refine R.seq ?_
 refine R.gA rfl ?_
 refine qn (K.box) fun b6 => ?_
 refine K.lA ?_
 refine R.out ?_
 refine R.dA ?_
 refine R.seq ?_
 refine R.gA rfl ?_
 refine ql (K.load1 one_98 rfl (h1.ptr.any)) ?_
 refine ql (K.uB pC rfl (h2.ptr.any) rfl) ?_
 refine ql (K.load1 one_3 rfl (h3.ptr.any)) ?_
 refine qc (K.nA cal_77 (fun F w hF hw => c74 (hMo.into hw) (hP.pass hw) hW.g hl hW.i)) ?_
 refine qn (K.alloc zr_3) fun b7 => ?_
 refine qt (K.store sz_3 rfl rfl rfl rfl (K.rp0)) ?_
 refine K.lA ?_
 refine R.out ?_
 refine R.dA ?_
 refine R.seq ?_
 refine R.gA rfl ?_
 refine ql (K.load1 one_98 rfl (h1.ptr.any)) ?_
 refine ql (K.uB ag_110 rfl (h4.ptr.any) rfl) ?_
 refine ql (K.load1 one_3 rfl (h3.ptr.any)) ?_
 refine K.gB (K.lB cal_75 (fun F w hF hw => c72 w)) rfl ?_
 rintro ⟨q1, q2, q3⟩ _
 refine zN ?_
 refine K.lA ?_
 refine R.out ?_
 refine R.dA ?_
 refine R.block ?_
 intro w1 hw1
 have hf1 : ∀ i, f i → i < w1.heap.size := fun i hi => Nat.lt_of_lt_of_le (hf i hi) hw1.1.size
 have ek := R.Keep.below (f := f) hw1.1
 have k1 := h1.keep ek
 have k2 := h2.keep ek
 have k5 := h5.keep ek
 have kM := hMo.keep ek
 have k6 := R.Own1.blk (f := f) hw1 (t := 151) (b := b6) (cs := [.func (.yield lr) #[] #[]]) (K.m4) hf
 have k7 := R.Own1.blk (f := f) hw1 (t := 3) (b := b7) (cs := [.int .i64 (headS m l i)]) (K.m3) hf
 have q1o := R.Own1.blk (f := f) hw1 (b := q1) (K.m2) hf
 have q2o := R.Own1.blk (f := f) hw1 (b := q2) (K.m1) hf
 have q3o := R.Own1.blk (f := f) hw1 (b := q3) (K.m0) hf
 have hB7 : B0 ≤ b7 := Nat.le_trans hB (K.blk_own hw1 (K.m3))
 have hJ1 := hJa.below hJ0 hf hB hw1.1
 have hStay : R.Stays w1.heap.size (fun k f W => J (hdK m l eye x y i k).length f W ∧ R.Own1 f W p1 [.pointer (some ⟨b, 0, none⟩)] ∧ R.Own1 f W p2 (ln l) ∧ R.Own1 f W p5 [.int .i64 eye] ∧ R.Own1 f W ⟨b, 0, none⟩ (mdl m A B C c d e) ∧ R.Own1 f W ⟨b6, 0, none⟩ [.func (.yield lr) #[] #[]] ∧ R.Own1 f W ⟨b7, 0, none⟩ [.int .i64 (headS m l i)]) := (hJa.mono (Nat.le_trans hB hw1.1.size) (fun k => (hdK m l eye x y i k).length)).and ((R.Stays.own1 k1.1).and ((R.Stays.own1 k2.1).and ((R.Stays.own1 k5.1).and ((R.Stays.own1 kM.1).and ((R.Stays.own1 k6.1).and (R.Stays.own1 k7.1))))))
 have hStayX : ∀ cc : Code, R.Stays w1.heap.size (fun _ f W => cc = Code.ret ∧ ∃ k, k ≤ (hidesS m l x y eye i).length ∧ Jx k f W) := fun cc k f w w' hJ hb hs => ⟨hJ.1, let ⟨k2, h1, h2⟩ := hJ.2; ⟨k2, h1, hJxa k2 f w w' h2 (hb.mono (Nat.le_trans hB hw1.1.size)) hs⟩⟩
 refine R.rangeW (gf := 114) (first := []) (cap := [.pointer (some ⟨q1, 0, none⟩), .pointer (some ⟨q3, 0, none⟩), .pointer (some ⟨q2, 0, none⟩)]) (enc := (fun s : Int × Int × Int => Value.agg #[.int .i64 s.1, .int .i64 s.2.1, .int .i64 s.2.2])) (XS := stepsS m x y i) rfl cal_114 (c100 (c := c) (d := d) (e := e) (A := A) (B := B) (C := C) (b := b) hW) w1.heap.size (Nat.le_refl _) (fun k f W => J (hdK m l eye x y i k).length f W ∧ R.Own1 f W p1 [.pointer (some ⟨b, 0, none⟩)] ∧ R.Own1 f W p2 (ln l) ∧ R.Own1 f W p5 [.int .i64 eye] ∧ R.Own1 f W ⟨b, 0, none⟩ (mdl m A B C c d e) ∧ R.Own1 f W ⟨b6, 0, none⟩ [.func (.yield lr) #[] #[]] ∧ R.Own1 f W ⟨b7, 0, none⟩ [.int .i64 (headS m l i)]) (fun cc f W => cc = Code.ret ∧ ∃ k, k ≤ (hidesS m l x y eye i).length ∧ Jx k f W) hStay hStayX f hf1 ⟨hJ1, k1, k2, k5, kM, k6, k7⟩ (fun f2 w2 hs hb => ⟨q1o.sub hs hb, q3o.sub hs hb, q2o.sub hs hb, kM.sub hs hb, (hP.pass hw1).later hb⟩) ?_ ?_ ?_
 ·intro k s f1 W lr1 hs hJ hfb hBW
  obtain ⟨hJ1, h1, h2, h5, hMo, h6, h7⟩ := hJ
  have hst := hW.step hs
  have hbd := hide_bd hW hl he hs
  have htb := top_bd hW.g hl s.1
  have hhb := head_bd hW.g hl i
  try dsimp only [List.cons_append, List.nil_append]
  refine zY ?_
  refine R.gA rfl ?_
  refine qn (K.alloc zr_141) fun b8 => ?_
  refine qt (K.vA sz_141 rfl rfl rfl rfl (K.rp0)) ?_
  refine K.lA ?_
  refine R.out ?_
  refine R.dA ?_
  refine R.bodyW (fun w2 hw2 W2 hJ2 hfb2 hs2 hz2 => ?_)
  obtain ⟨hJ1, h1, h2, h5, hMo, h6, h7⟩ := hJ2
  have h8 := R.Own1.round hw2 (K.m0) hfb hs2 hz2
  refine zN ?_
  refine R.block ?_
  refine R.seq ?_
  refine R.zdraw 25 uA rfl ?_
  refine R.z_mem 0 [0, 4, 7, 20, 21, 22, 23, 24, 25, 26, 27] rfl (K.load1 one_98 rfl (h1.ptr.any)) (fun _ h => h) (by kernel_rfl) (by kernel_rfl) rfl ?_
  refine zN ?_
  refine R.z_mem 1 [1, 4, 7, 20, 21, 22, 23, 24, 25, 26, 27] rfl (K.uB pC rfl (h2.ptr.any) rfl) (fun _ h => h) (by kernel_rfl) (by kernel_rfl) rfl ?_
  refine zN ?_
  refine R.nC 2 [2, 3, 4, 7, 20, 21, 22, 23, 24, 25, 26, 27] rfl (K.aA fo_141_0 rfl) (fun _ h => h) (by kernel_rfl) (by kernel_rfl) rfl ?_
  refine zn ?_
  refine R.z_mem 3 [3, 4, 7, 20, 21, 22, 23, 24, 25, 26, 27] rfl (K.mB one_3 rfl (h8.ptr.any) rfl) (fun _ h => h) (by kernel_rfl) (by kernel_rfl) rfl ?_
  refine zN ?_
  refine R.nC 5 [5, 6, 7, 20, 21, 22, 23, 24, 25, 26, 27] rfl (K.aA fo_141_2 rfl) (fun _ h => h) (by kernel_rfl) (by kernel_rfl) rfl ?_
  refine zn ?_
  refine R.z_mem 6 [6, 7, 20, 21, 22, 23, 24, 25, 26, 27] rfl (K.mB one_3 rfl (h8.ptr.any) rfl) (fun _ h => h) (by kernel_rfl) (by kernel_rfl) rfl ?_
  refine zN ?_
  refine R.z_mem 8 [8, 14, 19, 20, 21, 22, 23, 24, 25, 26, 27] rfl (K.load1 one_3 rfl (h5.ptr.any)) (fun _ h => h) (by kernel_rfl) (by kernel_rfl) rfl ?_
  refine zN ?_
  refine R.nC 9 [9, 10, 13, 14, 19, 20, 21, 22, 23, 24, 25, 26, 27] rfl (K.aA fo_141_2 rfl) (fun _ h => h) (by kernel_rfl) (by kernel_rfl) rfl ?_
  refine zn ?_
  refine R.z_mem 10 [10, 13, 14, 19, 20, 21, 22, 23, 24, 25, 26, 27] rfl (K.mB one_3 rfl (h8.ptr.any) rfl) (fun _ h => h) (by kernel_rfl) (by kernel_rfl) rfl ?_
  refine zN ?_
  refine R.nC 11 [11, 12, 13, 14, 19, 20, 21, 22, 23, 24, 25, 26, 27] rfl (K.aA fo_141_1 rfl) (fun _ h => h) (by kernel_rfl) (by kernel_rfl) rfl ?_
  refine zn ?_
  refine R.z_mem 12 [12, 13, 14, 19, 20, 21, 22, 23, 24, 25, 26, 27] rfl (K.mB one_3 rfl (h8.ptr.any) rfl) (fun _ h => h) (by kernel_rfl) (by kernel_rfl) rfl ?_
  refine zN ?_
  refine R.nC 13 [13, 14, 19, 20, 21, 22, 23, 24, 25, 26, 27] rfl (K.oB rfl rfl (by omega)) (fun _ h => h) (by kernel_rfl) (by kernel_rfl) rfl ?_
  refine zn ?_
  refine R.nC 14 [14, 19, 20, 21, 22, 23, 24, 25, 26, 27] rfl (K.mul_i64 rfl rfl (by omega)) (fun _ h => h) (by kernel_rfl) (by kernel_rfl) rfl ?_
  refine zn ?_
  refine R.z_mem 15 [15, 18, 19, 20, 21, 22, 23, 24, 25, 26, 27] rfl (K.mB one_3 rfl (h7.ptr.any) rfl) (fun _ h => h) (by kernel_rfl) (by kernel_rfl) rfl ?_
  refine zN ?_
  refine R.nC 16 [16, 17, 18, 19, 20, 21, 22, 23, 24, 25, 26, 27] rfl (K.aA fo_141_1 rfl) (fun _ h => h) (by kernel_rfl) (by kernel_rfl) rfl ?_
  refine zn ?_
  refine R.z_mem 17 [17, 18, 19, 20, 21, 22, 23, 24, 25, 26, 27] rfl (K.mB one_3 rfl (h8.ptr.any) rfl) (fun _ h => h) (by kernel_rfl) (by kernel_rfl) rfl ?_
  refine zN ?_
  refine R.nC 18 [18, 19, 20, 21, 22, 23, 24, 25, 26, 27] rfl (K.mul_i64 rfl rfl (by omega)) (fun _ h => h) (by kernel_rfl) (by kernel_rfl) rfl ?_
  refine zn ?_
  refine R.nC 19 [19, 20, 21, 22, 23, 24, 25, 26, 27] rfl (K.tA rfl rfl (by omega)) (fun _ h => h) (by kernel_rfl) (by kernel_rfl) rfl ?_
  refine zn ?_
  refine R.z_call 4 rfl rfl (K.nA cal_76 (fun F w hF hw => c73 (hMo.into hw) hW.g hl (by omega))) (fun _ h => h) (by kernel_rfl) rfl ?_
  refine zN ?_
  refine R.nC 7 [7, 20, 21, 22, 23, 24, 25, 26, 27] rfl (K.mul_i64 rfl rfl (by omega)) (fun _ h => h) (by kernel_rfl) (by kernel_rfl) rfl ?_
  refine zn ?_
  refine R.nC 20 [20, 21, 22, 23, 24, 25, 26, 27] rfl (K.geq rfl rfl) (fun _ h => h) (by kernel_rfl) (by kernel_rfl) rfl ?_
  refine zn ?_
  refine R.nC 21 [21, 22, 23, 24, 25, 26, 27] rfl (K.move) (fun _ h => h) (by kernel_rfl) (by kernel_rfl) rfl ?_
  refine zn ?_
  refine R.zsplit 39 rfl (fun hg39 => ?_) (fun hg39 => ?_)
  ·try replace hg39 := Kq.oT hg39
   have hb : hideB m l eye i s = true := decide_eq_true hg39
   refine R.z_mem 22 [22, 25, 26, 27] rfl (K.mB one_151 rfl (h6.ptr.any) rfl) (fun _ h => h) (by kernel_rfl) (by kernel_rfl) rfl ?_
   refine zN ?_
   refine R.nC 23 [23, 24, 25, 26, 27] rfl (K.aA fo_141_0 rfl) (fun _ h => h) (by kernel_rfl) (by kernel_rfl) rfl ?_
   refine zn ?_
   refine R.z_mem 24 [24, 25, 26, 27] rfl (K.mB one_3 rfl (h8.ptr.any) rfl) (fun _ h => h) (by kernel_rfl) (by kernel_rfl) rfl ?_
   refine zN ?_
   refine R.z_yield rfl rfl rfl (by kernel_rfl) rfl (fun w3 hw3 => R.yield_step2 hR (hd_at hs hb) (hJa.below hJ1 hfb2 (Nat.le_trans (Nat.le_trans hB hw1.1.size) (Nat.le_trans hBW (Nat.le_trans hw2.1.size hz2))) hw3.1)) ?_
   intro w3 hw3 bb w3' hst
   refine zN ?_
   first | refine R.y_pure 26 rfl (by kernel_rfl) (K.fC rfl) rfl rfl ?_ | refine R.y_pure 26 rfl (by kernel_rfl) (K.not_ rfl) rfl rfl ?_
   refine zN ?_
   refine R.y_pure 27 rfl (by kernel_rfl) (K.sA rfl) rfl rfl ?_
   refine zn ?_
   refine R.y_done (by kernel_rfl) ?_
   refine R.dA ?_
   refine R.cond rfl (fun ht45 => ?_) (fun ht45 => ?_)
   ·try replace ht45 := Kq.oT ht45
    refine R.ret ?_
    refine R.qA ?_
    have hbf : bb = false := by simpa using ht45
    subst hbf
    rcases hst with ⟨h, _⟩ | ⟨_, k2, f2, hk2, hJn, hkp, hg2, hf2⟩
    case inl => cases h
    refine R.rpw_ret hw3 hkp hg2 hf2 (fun w4 hw4 => ?_)
    have h7n := h7.keep ((R.Keep.below (f := f1) hw3.1).trans hkp)
    have hB3 : B0 ≤ w3'.heap.size := Nat.le_of_lt (Nat.lt_of_le_of_lt hB7 h7n.1)
    exact ⟨rfl, k2, hk2, hJxa.below hJn hf2 hB3 hw4.1⟩
   try replace ht45 := Kq.oF ht45
   refine R.skip ?_
   refine R.kA ?_
   have hbt : bb = true := by simpa using ht45
   subst hbt
   rcases hst with ⟨_, f2, hJn, hk2, hg2, hf2⟩ | ⟨h, _⟩
   case inr => cases h
   refine R.rpw_next hw3 hk2 hg2 hf2 (fun w4 hw4 => ?_)
   have ek := ((R.Keep.below (f := f1) hw3.1).trans hk2).trans (R.Keep.below (f := f2) hw4.1)
   have h7n := h7.keep ((R.Keep.below (f := f1) hw3.1).trans hk2)
   have hB3 : B0 ≤ w3'.heap.size := Nat.le_of_lt (Nat.lt_of_le_of_lt hB7 h7n.1)
   refine ⟨?_, h1.keep ek, h2.keep ek, h5.keep ek, hMo.keep ek, h6.keep ek, h7.keep ek⟩
   rw [hd_next hs, if_pos hb, List.length_append]
   exact hJa.below hJn hf2 hB3 hw4.1
  try replace hg39 := Kq.oF hg39
  refine R.z_skip 22 [22, 25, 26, 27] rfl (fun _ h => h) (by kernel_rfl) (by kernel_rfl) rfl ?_
  refine zN ?_
  refine R.z_skip 23 [23, 24, 25, 26, 27] rfl (fun _ h => h) (by kernel_rfl) (by kernel_rfl) rfl ?_
  refine zN ?_
  refine R.z_skip 24 [24, 25, 26, 27] rfl (fun _ h => h) (by kernel_rfl) (by kernel_rfl) rfl ?_
  refine zN ?_
  refine R.z_none rfl (by kernel_rfl) rfl ?_
  refine zN ?_
  refine R.y_skip 26 rfl (by kernel_rfl) rfl ?_
  refine zN ?_
  refine R.y_pure 27 rfl (by kernel_rfl) (K.dB rfl) rfl rfl ?_
  refine zn ?_
  refine R.y_done (by kernel_rfl) ?_
  refine R.dA ?_
  refine R.oA rfl ?_
  refine R.skip ?_
  refine R.kA ?_
  refine R.rpw_same hStay (Nat.le_trans hBW (Nat.le_trans hw2.1.size hz2)) hfb2 ⟨?_, h1, h2, h5, hMo, h6, h7⟩
  rw [hd_next hs, if_neg (by simpa [hideB] using hg39), List.append_nil]
  exact hJ1
 ·intro b2 f2 W hJ hm
  obtain ⟨hJ1, _, _, _, _, _, h7⟩ := hJ
  rw [hd_all] at hJ1
  refine R.leaveW hm (fun w => K.rB rfl w) (fun W2 hb hs => ⟨⟨_, rfl⟩, .inl ⟨f2, hJa _ _ _ _ hJ1 (hb.mono (Nat.le_trans hB hw1.1.size)) hs⟩⟩)
 ·intro b2 cc f2 W hJ hm
  obtain ⟨rfl, k2, hk2, hJ1⟩ := hJ
  refine wpIn_ret ?_
  refine R.leaveW hm (fun w => K.rB rfl w) (fun W2 hb hs => ⟨⟨_, rfl⟩, .inr ⟨k2, f2, hk2, hJxa _ _ _ _ hJ1 (hb.mono (Nat.le_trans hB hw1.1.size)) hs⟩⟩)

end Go.Proofs.YtnhhfkgldoeifaaGreatDoor.Pn
end
section
namespace Go.Proofs.YtnhhfkgldoeifaaGreatDoor.Pn
open Go.RowKit Go
open Go.K (setd setn ev nth over cl eI eP eT setM setF)
attribute [local irreducible] K.blk K.row

set_option maxRecDepth 100000 in
theorem c69 {m : Mod} {A B C : Option Addr} {c d e : Nat} {b : Nat} {l : List Int} {x y eye : Int} {w : World} (hM : K.PtrL w [] ⟨b, 0, none⟩ (mdl m A B C c d e)) (hMb : b < w.heap.size) (hP : K.Rd w B 5 eN m.ps) (g : Good m) (hl : LB l) (hx : -20 ≤ x ∧ x ≤ 20) (hy : -20 ≤ y ∧ y ≤ 20) (he : 0 ≤ eye ∧ eye ≤ 3000) :
  Calls Tryz.prog 51 [.pointer (some ⟨b, 0, none⟩), .agg #[iI (l.getD 0 default), iI (l.getD 1 default), iI (l.getD 2 default), iI (l.getD 3 default), iI (l.getD 4 default), iI (l.getD 5 default)], .agg #[.int .i64 x, .int .i64 y], .int .i64 eye].toArray w (K.Gives (.int .i64 (setN (seesB m l x y eye) m.ps.length)) w) := by
 have hWy : ∀ k, k < m.ps.length → Way m x y k := fun k hk => ⟨g, hk, hx, hy⟩
 have hgn := g.n
 refine R.enter (args := [.pointer (some ⟨b, 0, none⟩), .agg #[iI (l.getD 0 default), iI (l.getD 1 default), iI (l.getD 2 default), iI (l.getD 3 default), iI (l.getD 4 default), iI (l.getD 5 default)], .agg #[.int .i64 x, .int .i64 y], .int .i64 eye]) Tryz.func51 rfl (m := 28) rfl ?_
 refine zR ?_
 refine R.seq ?_
 refine R.gA rfl ?_
 refine qn (K.box) fun b5 => ?_
 refine qn (K.box) fun b6 => ?_
 refine qa ?_
 refine K.lA ?_
 refine R.out ?_
 refine R.dA ?_
 refine R.scope ?_
 refine R.seq ?_
 refine R.label ?_
 refine R.dA ?_
 refine R.seq ?_
 refine R.seq ?_
 refine R.gA rfl ?_
 refine qm ?_
 refine qp (K.nilCheck rfl) ?_
 refine qp (K.aA fo_108_0 rfl) ?_
 refine qp (K.aA bC rfl) ?_
 refine ql (K.mB lC rfl (hM.any) rfl) ?_
 refine qp (K.aB oC rfl) ?_
 refine qm ?_
 refine K.lA ?_
 refine R.out ?_
 refine R.dA ?_
 refine R.block ?_
 refine R.loopD [8, 16] [9, 17, 18, 19, 20, 21, 22, 23, 24, 26, 27, 28, 29, 30] (fun vi L => ∃ k : Nat, vi = [.int .i64 (setN (seesB m l x y eye) k), .int .i64 (k : Int)] ∧ L = [K.blk b6 110 [.int .i64 x, .int .i64 y], K.blk b5 105 (ln l)] ∧ k ≤ m.ps.length) (fun vi => m.ps.length - (intOf (K.nth vi 1)).toNat) ?_ ?_
 ·exact ⟨0, rfl, rfl, Nat.zero_le _⟩
 intro vi vr L bs hJ
 obtain ⟨k, rfl, rfl, hkn⟩ := hJ
 try dsimp only [List.cons_append, List.nil_append]
 refine zY ?_
 refine R.seq ?_
 refine R.gA rfl ?_
 refine qp (K.lss rfl rfl) ?_
 refine K.lA ?_
 refine R.out ?_
 refine R.dA ?_
 refine R.seq ?_
 refine R.cond rfl (fun ht17 => ?_) (fun ht17 => ?_)
 ·try replace ht17 := Kq.oT ht17
  have hk : k < m.ps.length := by omega
  have hsb := setN_bd (p := (seesB m l x y eye)) (n := k) (by omega)
  refine R.skip ?_
  refine R.dA ?_
  refine R.seq ?_
  refine R.block ?_
  refine R.seq ?_
  refine R.gA rfl ?_
  refine qm ?_
  refine qa ?_
  refine K.lA ?_
  refine R.out ?_
  refine R.dA ?_
  refine R.seq ?_
  refine R.seq ?_
  refine R.gA rfl ?_
  refine qm ?_
  refine ql (K.jA pC rfl (K.m1) rfl) ?_
  refine ql (K.jA ag_110 rfl (K.m0) rfl) ?_
  iterate 2 refine qm ?_
  refine K.gB (K.lB cal_74 (fun F w hF hw => c63 w)) rfl ?_
  rintro ⟨q1, q2, q3, q4, q5⟩ _
  refine zN ?_
  refine K.lA ?_
  refine R.out ?_
  refine R.dA ?_
  refine R.block ?_
  refine R.rangeC (gf := 113) (first := []) (cap := [.pointer (some ⟨q1, 0, none⟩), .pointer (some ⟨q2, 0, none⟩), .pointer (some ⟨q5, 0, none⟩), .pointer (some ⟨q3, 0, none⟩), .pointer (some ⟨q4, 0, none⟩)]) (enc := (fun n : Int => Value.int .i64 n)) (XS := hidesS m l x y eye k) rfl cal_113 [K.blk b6 110 [.int .i64 x, .int .i64 y], K.blk b5 105 (ln l), R.dfs bs] [K.blk q5 3 [.int .i64 (k : Int)], K.blk q4 3 [.int .i64 eye], K.blk q3 110 [.int .i64 x, .int .i64 y], K.blk q2 105 (ln l), K.blk q1 98 [.pointer (some ⟨b, 0, none⟩)]] (K.st_perm (show List.Perm [K.blk q5 3 [.int .i64 (k : Int)], K.blk q4 3 [.int .i64 eye], K.blk q3 110 [.int .i64 x, .int .i64 y], K.blk q2 105 (ln l), K.blk q1 98 [.pointer (some ⟨b, 0, none⟩)], K.blk b6 110 [.int .i64 x, .int .i64 y], K.blk b5 105 (ln l), R.dfs bs] ([K.blk b6 110 [.int .i64 x, .int .i64 y], K.blk b5 105 (ln l), R.dfs bs] ++ [K.blk q5 3 [.int .i64 (k : Int)], K.blk q4 3 [.int .i64 eye], K.blk q3 110 [.int .i64 x, .int .i64 y], K.blk q2 105 (ln l), K.blk q1 98 [.pointer (some ⟨b, 0, none⟩)]]) from (List.Perm.trans (List.perm_middle (l₁ := [_, _, _, _, _])) (List.Perm.cons _ (List.Perm.trans (List.perm_middle (l₁ := [_, _, _, _, _])) (List.Perm.cons _ (List.Perm.trans (List.perm_middle (l₁ := [_, _, _, _, _])) (List.Perm.cons _ Kq.p0)))))))) (R.fixC (R.fixC (R.fixC (R.fixC (R.fixC R.fixN))))) (c96 (c := c) (d := d) (e := e) (A := A) (B := B) (C := C) (b := b) (hWy k hk) hl he) (fun f w hf => ⟨hf.own1 K.m4, hf.own1 K.m3, hf.own1 K.m0, hf.own1 K.m2, hf.own1 K.m1, hf.old1 hM hMb, hP.pass hf.1⟩) (fun k L => k = 0 ∧ L = [K.blk b6 110 [.int .i64 x, .int .i64 y], K.blk b5 105 (ln l), R.dfs bs]) (fun cX L => cX = Code.exit 1 ∧ L = [K.blk b6 110 [.int .i64 x, .int .i64 y], K.blk b5 105 (ln l), R.dfs bs] ∧ hidesS m l x y eye k ≠ []) ?_ ?_ ?_ ?_
  ·exact ⟨rfl, rfl⟩
  ·intro k s L lr E hs hE hJ
   obtain ⟨rfl, rfl⟩ := hJ
   try dsimp only [List.cons_append, List.nil_append]
   refine zY ?_
   refine R.skip ?_
   refine R.dA ?_
   refine R.bodyC' rfl (fun E hE => ?_)
   dsimp only [List.dropLast, List.cons_append, List.nil_append]
   refine zN ?_
   refine R.block ?_
   refine R.exit ?_
   refine R.exit_out rfl ?_
   refine R.rp_exit ⟨rfl, rfl, fun h => by rw [h] at hs; simp at hs⟩ Kq.s0
  ·intro bD L hJ
   obtain ⟨hlen, rfl⟩ := hJ
   have hse : seesB m l x y eye k = true := by unfold seesB; rw [List.eq_nil_of_length_eq_zero hlen]; rfl
   try dsimp only [List.cons_append, List.nil_append]
   refine zY ?_
   refine R.markJ (L := [K.blk b6 110 [.int .i64 x, .int .i64 y], K.blk b5 105 (ln l)]) (K.st_sub (Kq.sc (Kq.sc (Kq.sc (Kq.s1 (Kq.s1 (Kq.s1 (Kq.s1 (Kq.s1 (Kq.sc Kq.s0)))))))))) ?_
   try dsimp only [List.cons_append, List.nil_append]
   refine zN ?_
   refine R.kA ?_
   refine R.dA ?_
   refine R.gA rfl ?_
   iterate 2 refine qm ?_
   refine qp (K.shl_int rfl rfl (by omega)) ?_
   refine qp (K.Pure.eq (K.or_int rfl rfl) (show _ = Value.int .i64 (setN (seesB m l x y eye) k + 2 ^ k) from by rw [or_bit (by omega) hsb.1 hsb.2])) ?_
   refine qa ?_
   refine K.lA ?_
   refine R.out ?_
   refine R.kA ?_
   refine R.dA ?_
   refine R.gA rfl ?_
   refine qp (K.tA rfl rfl (by omega)) ?_
   refine qm ?_
   refine K.lA ?_
   refine R.out ?_
   first
    | (rw [← setN_yes hse]; exact R.round_endD (L'' := [K.blk b6 110 [.int .i64 x, .int .i64 y], K.blk b5 105 (ln l)]) [.int .i64 (setN (seesB m l x y eye) (k + 1)), .int .i64 ((k : Int) + 1)] ⟨k + 1, rfl, rfl, by omega⟩ (by simp [K.nth, intOf]; omega) Kq.s0 (by kernel_rfl))
    | exact R.round_endD (L'' := [K.blk b6 110 [.int .i64 x, .int .i64 y], K.blk b5 105 (ln l)]) [.int .i64 (setN (seesB m l x y eye) k), .int .i64 ((k : Int) + 1)] ⟨k + 1, by rw [setN_no hse]; rfl, rfl, by omega⟩ (by simp [K.nth, intOf]; omega) Kq.s0 (by kernel_rfl)
  ·intro bD cX L hJ
   obtain ⟨rfl, rfl, hne⟩ := hJ
   have hse : seesB m l x y eye k = false := by unfold seesB; rw [List.isEmpty_eq_false_iff]; exact hne
   try dsimp only [List.cons_append, List.nil_append]
   refine zY ?_
   refine R.markJ (L := [K.blk b6 110 [.int .i64 x, .int .i64 y], K.blk b5 105 (ln l)]) (K.st_sub (Kq.sc (Kq.sc (Kq.sc (Kq.s1 (Kq.s1 (Kq.s1 (Kq.s1 (Kq.s1 (Kq.sc Kq.s0)))))))))) ?_
   try dsimp only [List.cons_append, List.nil_append]
   refine zN ?_
   refine R.exit ?_
   refine R.exit_out rfl ?_
   refine R.pA (R.zA (R.dA ?_))
   refine R.gA rfl ?_
   refine qp (K.tA rfl rfl (by omega)) ?_
   refine qm ?_
   refine K.lA ?_
   refine R.out ?_
   first
    | (rw [← setN_yes hse]; exact R.round_endD (L'' := [K.blk b6 110 [.int .i64 x, .int .i64 y], K.blk b5 105 (ln l)]) [.int .i64 (setN (seesB m l x y eye) (k + 1)), .int .i64 ((k : Int) + 1)] ⟨k + 1, rfl, rfl, by omega⟩ (by simp [K.nth, intOf]; omega) Kq.s0 (by kernel_rfl))
    | exact R.round_endD (L'' := [K.blk b6 110 [.int .i64 x, .int .i64 y], K.blk b5 105 (ln l)]) [.int .i64 (setN (seesB m l x y eye) k), .int .i64 ((k : Int) + 1)] ⟨k + 1, by rw [setN_no hse]; rfl, rfl, by omega⟩ (by simp [K.nth, intOf]; omega) Kq.s0 (by kernel_rfl)
 try replace ht17 := Kq.oF ht17
 refine R.exit ?_
 refine R.pA (R.pA (R.zA (R.dA ?_)))
 refine R.seq ?_
 refine R.gA rfl ?_
 refine qm ?_
 refine qa ?_
 refine K.lA ?_
 refine R.out ?_
 refine R.dA ?_
 refine R.ret ?_
 refine R.ng_ret ?_
 refine R.end_retD rfl (by dsimp only [List.dropLast]; exact (fun w _ => K.res_tmp rfl w)) ?_
 dsimp only [List.dropLast]
 have e0 : k = m.ps.length := by omega
 exact K.xA rfl (by rw [e0])

end Go.Proofs.YtnhhfkgldoeifaaGreatDoor.Pn
end
section
namespace Go.Proofs.YtnhhfkgldoeifaaGreatDoor.Pn
open Go.RowKit Go
open Go.K (setd setn ev nth over cl eI eP eT setM setF)
attribute [local irreducible] K.blk K.row
def Tab (w : World) : Prop := 1 < w.heap.size ∧ K.PtrL w [] ⟨1, 0, none⟩ tab64
theorem Tab.pass {w0 w : World} {F : List K.Chunk} (h : Tab w0) (hw : K.St w0 F w) : Tab w := ⟨K.lt_into h.1 hw, h.2.into h.1 hw⟩

set_option maxRecDepth 100000 in
theorem c109 {x : Int} {w : World} (hT : Tab w) (hx : 1 ≤ x ∧ x ≤ 63) :
  Calls Tryz.prog 125 [.int .u64 x].toArray w (K.Gives (.int .i64 (tzS x)) w) := by
 obtain ⟨hi, hta, htz⟩ := idx_at hx
 refine K.enter (args := [.int .u64 x]) Tryz.func125 rfl (n := 13) rfl ?_
 refine zR ?_
 refine sr (qa ?_)
 refine sn (K.seq (sr (qm ?_)))
 refine qp (K.eql rfl rfl) ?_
 refine sn (K.oA (by exact congrArg Value.bool (decide_eq_false (by omega))) ?_)
 refine K.skip (K.dA (sr ?_))
 iterate 2 refine qm ?_
 refine qp (K.neg_wrap rfl) ?_
 refine qp (K.and_int rfl rfl) ?_
 refine qp (K.mul_wrap rfl rfl) ?_
 refine qp (K.Pure.eq (K.shr_int rfl rfl (by omega)) (show _ = Value.int .u64 (idxZ x) from rfl)) ?_
 refine K.mA (K.iB ar_212 rfl rfl (by omega) (by omega)) rfl ?_
 refine zN ?_
 refine ql (K.mB one_5 rfl hT.2.any hta) ?_
 refine K.mA (K.Pure.eq (K.conv_int ik_5 ik_3 rfl) (show _ = Value.int .i64 (tzS x) from by rw [IntWalk.i64_in _ (by omega)])) rfl ?_
 refine zN ?_
 refine qa ?_
 refine sn (K.ret (et ?_))
 exact K.gives rfl

set_option maxRecDepth 100000 in
theorem c99 {x : Int} {w : World} (hT : Tab w) (hx : 1 ≤ x ∧ x ≤ 63) :
  Calls Tryz.prog 89 [.int .u64 x].toArray w (K.Gives (.int .i64 (tzS x)) w) := by
 refine K.enter (args := [.int .u64 x]) Tryz.func89 rfl (n := 7) rfl ?_
 refine zR ?_
 refine sr (qa ?_)
 refine sn (K.seq (K.oA rfl ?_))
 refine K.skip (K.dA (sr (qm ?_)))
 refine qc (K.nA cal_125 (fun F w hF hw => c109 (hT.pass hw) hx)) ?_
 refine qa ?_
 refine sn (K.ret (et ?_))
 exact K.gives rfl

set_option maxRecDepth 100000 in
theorem c68 {s : Int} {w : World} (hT : Tab w) (hs : 0 ≤ s ∧ s ≤ 63) :
  Calls Tryz.prog 50 [.int .i64 s].toArray w (K.RetS 3 1 K.eI (bitsL s) w) := by
 refine K.enter (args := [.int .i64 s]) Tryz.func50 rfl (n := 15) rfl ?_
 refine zR ?_
 refine sr (qa ?_)
 refine sn (K.seq (K.block ?_))
 refine K.jC (e := 3) (size := 1) ?_
 refine K.loopW [0, 2] [3, 4, 5, 6, 7, 8, 9, 10, 11, 12, 13, 14] (fun vi L => ∃ (c1 : Int) (xs : List Int) (Q1 : Option Addr) (q1 : Nat), vi = [.int .i64 c1, .slice Q1 xs.length q1] ∧ L = [K.row (.slice Q1 xs.length q1) 3 1 xs.length (xs.flatMap K.eI)] ∧ (0 ≤ c1 ∧ c1 ≤ 63) ∧ bitsL s = xs ++ bitsL c1) (fun vi => (intOf (K.nth vi 0)).toNat) ?_ ?_
 ·exact ⟨s, [], none, 0, rfl, rfl, hs, rfl⟩
 intro vi vr L hJ
 obtain ⟨c1, xs, Q1, q1, rfl, rfl, hc, hxs⟩ := hJ
 refine zY ?_
 refine K.seq (sr (qm ?_))
 refine qp (K.neq rfl rfl) ?_
 refine sn ?_
 refine K.cond rfl (fun ht4 => ?_) (fun ht4 => ?_)
 ·try replace ht4 := Kq.oT ht4
  have hb1 := bits_at (x := c1) (by omega)
  have hxl : xs.length ≤ 6 := by have := congrArg List.length hxs; rw [List.length_append] at this; have := bits_len (x := s); omega
  refine K.skip (K.dA (K.seq (K.block (K.gA ?_))))
  iterate 2 refine qm ?_
  refine K.mA (K.Pure.eq (K.conv_int ik_3 ik_148 rfl) (show _ = Value.int .u64 c1 from by rw [IntWalk.u64_in _ (by omega)])) rfl ?_
  refine zN ?_
  refine qc (K.nA cal_89 (fun F w hF hw => c99 (hT.pass hw) (by omega))) ?_
  refine qn (K.buildSlice (bs1 _)) fun b13 => ?_
  refine K.xB (K.append el_26 rfl rfl (K.PtrL.own' (K.m0)) rfl rfl (by decide) (by omega) (by omega) (fun _ _ => K.rp1)) rfl ?_
  rintro ⟨g14, c14⟩ _
  refine zN ?_
  refine qa ?_
  refine K.lA (K.kA (K.dA (K.gA ?_)))
  iterate 2 refine qm ?_
  refine qp (K.oB rfl rfl (by omega)) ?_
  refine qp (K.Pure.eq (K.and_int rfl rfl) (show _ = Value.int .i64 (andS c1) from rfl)) ?_
  refine qa ?_
  refine K.lA ?_
  have hm1 : (andS c1).toNat < c1.toNat := by omega
  exact K.rA (L'' := [K.row (.slice (some ⟨g14, 0, none⟩) (xs.length + 1) c14) 3 1 (xs.length + 1) (xs.flatMap K.eI ++ [.int .i64 (tzS c1)])]) [.int .i64 (andS c1), .slice (some ⟨g14, 0, none⟩) (xs.length + 1) c14] ⟨andS c1, xs ++ [tzS c1], some ⟨g14, 0, none⟩, c14, by rw [List.length_append]; rfl, by rw [List.length_append, List.flatMap_append]; rfl, by omega, by rw [hxs, hb1.2, List.append_assoc]; rfl⟩ hm1 (by repeat (first | exact List.Sublist.refl _ | apply List.Sublist.cons)) (by kernel_rfl)
 try replace ht4 := Kq.oF ht4
 refine K.exit (K.pA (K.pA (K.zA (K.dA (sr (qm ?_))))))
 refine qa ?_
 refine sn (K.ret (et ?_))
 have h0 : c1 = 0 := Decidable.not_not.1 ht4
 subst h0
 rw [bits_0, List.append_nil] at hxs
 exact K.rets_s K.m0 (by rw [hxs]) (by rw [hxs]) rfl

end Go.Proofs.YtnhhfkgldoeifaaGreatDoor.Pn
end
section
namespace Go.Proofs.YtnhhfkgldoeifaaGreatDoor.Pn
open Go.ChangeShapes Go.WideShapes Go.ChangeAt Go.RowKit
theorem own0 : ownKnob Tryz.prog.godebug = none := by kernel_rfl
theorem laidOut0 : laidOutB Tryz.prog = true := by kernel_rfl
abbrev LAID : List (String × DataW Unit) := [("math/bits.deBruijn32tab", Rows.laid_math_bits_deBruijn32tab), ("math/bits.deBruijn64tab", Rows.laid_math_bits_deBruijn64tab), ("internal/strconv.uint64pow10", Rows.laid_internal_strconv_uint64pow10), ("unicode/utf8.acceptRanges", Rows.laid_unicode_utf8_acceptRanges), ("strconv.ErrRange", Rows.laid_strconv_ErrRange), ("strconv.ErrSyntax", Rows.laid_strconv_ErrSyntax), ("unicode/utf8.first", Rows.laid_unicode_utf8_first)]
theorem laid64 : (Rows.laid_math_bits_deBruijn64tab : DataW Unit) = .agg (tabZ.map fun n => .lit (.int .u8 n)) := rfl
set_option maxRecDepth 100000 in
theorem tab_of {W : World} (h : laidMetH Tryz.prog LAID W) : Tab W := by
 rw [MakeChecks.laidMetH_plain _ _ _ (by kernel_rfl)] at h
 obtain ⟨ps, ⟨g0, t0, cs0, f0, p0, q0, hg0, ht0, hv0, hd0, ⟨g1, t1, cs1, f1, p1, q1, hg1, ht1, hv1, hd1, _, _⟩, _⟩, _, _⟩ := h
 obtain rfl := Option.some.inj ((show Tryz.prog.globalNamed "math/bits.deBruijn64tab" = some 1 by kernel_rfl).symm.trans hg1)
 have ht2 : (Tryz.prog.globals[1]?).map (·.type) = some 212 := by kernel_rfl
 obtain rfl := Option.some.inj (ht2.symm.trans ht1)
 obtain ⟨xs, m, hls, ex, hbk, hl, hel⟩ := DataW.trod_array Tryz.underlying212 hd1
 have c5 : Tryz.prog.cellsOf 5 = 1 := by kernel_rfl
 have hcell : ∀ r, r < 64 → W.cell? ⟨1, r, none⟩ = some (.int .u8 (tabZ.getD r 0)) := by
  intro r hr
  have hE := hel r hr
  rw [c5, Nat.mul_one, List.getElem?_eq_getElem (by omega)] at hE
  obtain ⟨z, e1, e2, _⟩ := DataW.trod_int Tryz.underlying5 hE
  have hlen : tabZ.length = 64 := by kernel_rfl
  rw [laid64] at ex
  have e3 : (xs.map (·.1)) = tabZ.map fun n => .lit (.int .u8 n) := (DataW.agg.inj (Prod.mk.inj ex).1).symm
  have e4 : (xs.map (·.1))[r]? = (tabZ.map fun n => (DataW.lit (.int .u8 n) : DataW Unit))[r]? := by rw [e3]
  rw [List.getElem?_map, List.getElem?_map, List.getElem?_eq_getElem (by omega : r < xs.length), List.getElem?_eq_getElem (by omega : r < tabZ.length), e2] at e4
  have hz : z = tabZ.getD r 0 := by
   simp only [Option.map_some, Option.some.injEq, DataW.lit.injEq, Lit.int.injEq, true_and] at e4
   rw [e4, List.getD, List.getElem?_eq_getElem (by omega : r < tabZ.length)]; rfl
  rw [World.var?_cell hg1 hv1 r, ← hz]
  have : cs1.toList[r]? = some (.int .u8 z) := by
   have h0 : ((cs1.toList.drop r).take 1)[0]? = some (.int .u8 z) := by rw [e1]; rfl
   simpa using h0
  simpa using this
 have hb : 1 < W.heap.size := World.block_lt_of_cell? W _ (hcell 0 (by decide))
 refine ⟨hb, K.PtrL.old hb fun j u hu => ?_⟩
 have hj : j < 64 := by have := (List.getElem?_eq_some_iff.1 hu).1; rwa [show tab64.length = 64 by kernel_rfl] at this
 rw [show (⟨1, 0, none⟩ : Addr).add j = ⟨1, j, none⟩ by unfold Addr.add; split <;> simp_all, hcell j hj]
 unfold tab64 at hu
 rw [List.getElem?_map, List.getElem?_eq_getElem (by rw [show tabZ.length = 64 by kernel_rfl]; exact hj)] at hu
 rw [List.getD, List.getElem?_eq_getElem (by rw [show tabZ.length = 64 by kernel_rfl]; exact hj)]
 exact hu

theorem pow_of {W : World} (h : laidMetH Tryz.prog LAID W) : Lib.TabIs Tryz.prog W "internal/strconv.uint64pow10" .u64 Lib.pow10Tab := by
 rw [MakeChecks.laidMetH_plain _ _ _ (by kernel_rfl)] at h
 obtain ⟨ps, ⟨g0, t0, cs0, f0, p0, q0, hg0, ht0, hv0, hd0, ⟨g1, t1, cs1, f1, p1, q1, hg1, ht1, hv1, hd1, ⟨g2, t2, cs2, f2, p2, q2, hg2, ht2, hv2, hd2, _, _⟩, _⟩, _⟩, _, _⟩ := h
 have hgn : Tryz.prog.globalNamed "internal/strconv.uint64pow10" = some 3 := by kernel_rfl
 obtain rfl := Option.some.inj (hgn.symm.trans hg2)
 have hty : (Tryz.prog.globals[3]?).map (·.type) = some 231 := by kernel_rfl
 obtain rfl := Option.some.inj (hty.symm.trans ht2)
 unfold Lib.TabIs
 rw [hv2, ← Lib.cells_of_tab (k := .u64) (zs := Lib.pow10Tab) Tryz.underlying231 Tryz.underlying197 (by kernel_rfl) (by kernel_rfl) hd2]
end Go.Proofs.YtnhhfkgldoeifaaGreatDoor.Pn
end
section
namespace Go.Proofs.YtnhhfkgldoeifaaGreatDoor.Pn
open Go
theorem seen_0 {m : Mod} {s : Nat} (hc : (chk m).2.2 = 0) (hs : s < m.ss.length) : seenE m s = 0 := by unfold seenE; rw [if_neg (by omega), if_neg (by omega)]
theorem seen_4 {m : Mod} {s : Int} (hc : (chk m).2.2 = 0) (hs : ¬ (0 ≤ s ∧ s ≤ (m.ss.length : Int) - 1)) : seenE m s = 4 := by unfold seenE; rw [if_neg (by omega), if_pos hs]
theorem seen_c {m : Mod} {s : Int} (hc : (chk m).2.2 ≠ 0) : seenE m s = (chk m).2.2 := by unfold seenE; rw [if_pos hc]
def sureL (m : Mod) (s : Int) : List Int := if seenE m s = 0 then seenL m (ownS m) s.toNat (m.ss.getD s.toNat default).lo else []
def mayL (m : Mod) (s : Int) : List Int := if seenE m s = 0 then seenL m (ownS m) s.toNat (m.ss.getD s.toNat default).hi else []
theorem sure_e {m : Mod} {s : Int} (h : seenE m s ≠ 0) : sureL m s = [] := by unfold sureL; rw [if_neg h]
theorem may_e {m : Mod} {s : Int} (h : seenE m s ≠ 0) : mayL m s = [] := by unfold mayL; rw [if_neg h]
theorem sure_0 {m : Mod} {s : Nat} (h : seenE m s = 0) : sureL m s = seenL m (ownS m) s (m.ss.getD s default).lo := by unfold sureL; rw [if_pos h]; rfl
theorem may_0 {m : Mod} {s : Nat} (h : seenE m s = 0) : mayL m s = seenL m (ownS m) s (m.ss.getD s default).hi := by unfold mayL; rw [if_pos h]; rfl
theorem seenL_len {m : Mod} {l : List Int} {s : Nat} {eye : Int} : (seenL m l s eye).length ≤ m.ps.length := selN_len
def moreE (m : Mod) (l : List Int) (i : Nat) (s : Int × Int × Int) : Int := topS m l s.1 * s.2.2 - headS m l i * s.2.1
def eyeE (m : Mod) (l : List Int) (i : Nat) (s : Int × Int × Int) : Int := if moreE m l i s ≥ 0 then moreE m l i s / (s.2.2 - s.2.1) + 1 else 0
def eyeK (m : Mod) (l : List Int) (x y : Int) (i k : Nat) : Int := (((stepsS m x y i).take k).map (eyeE m l i)).foldl max 0
def eyeS (m : Mod) (l : List Int) (x y : Int) (i : Nat) : Int := ((stepsS m x y i).map (eyeE m l i)).foldl max 0
theorem eye_all {m : Mod} {l : List Int} {x y : Int} {i : Nat} : eyeK m l x y i (stepsS m x y i).length = eyeS m l x y i := by unfold eyeK eyeS; rw [List.take_length]
theorem eye_next {m : Mod} {l : List Int} {x y : Int} {i k : Nat} {s : Int × Int × Int} (h : (stepsS m x y i)[k]? = some s) : eyeK m l x y i (k + 1) = max (eyeK m l x y i k) (eyeE m l i s) := by
 unfold eyeK
 rw [List.take_add_one, h, List.map_append, List.foldl_append]; rfl
theorem div_bd {a b A : Int} (ha : 0 ≤ a ∧ a ≤ A) (hb : 1 ≤ b) : 0 ≤ a / b ∧ a / b ≤ A := ⟨Int.ediv_nonneg ha.1 (by omega), Int.le_trans (Int.ediv_le_self b ha.1) ha.2⟩
theorem eyeE_bd {m : Mod} {l : List Int} {x y : Int} {i k : Nat} {s : Int × Int × Int} (h : Way m x y i) (hl : LB l) (hs : (stepsS m x y i)[k]? = some s) : -21600 ≤ moreE m l i s ∧ moreE m l i s ≤ 21600 ∧ 0 ≤ eyeE m l i s ∧ eyeE m l i s ≤ 21601 := by
 have h1 := hide_bd (eye := 0) h hl (by omega) hs
 have h2 := h.step hs
 unfold eyeE
 have h3 : -21600 ≤ moreE m l i s ∧ moreE m l i s ≤ 21600 := by unfold moreE; omega
 refine ⟨h3.1, h3.2, ?_⟩
 split
 ·have := div_bd (a := moreE m l i s) (A := 21600) (b := s.2.2 - s.2.1) (by omega) (by omega)
  omega
 ·omega
theorem foldmax_bd {xs : List Int} {A : Int} (hA : 0 ≤ A) (h : ∀ x ∈ xs, x ≤ A) : ∀ a, 0 ≤ a → a ≤ A → 0 ≤ xs.foldl max a ∧ xs.foldl max a ≤ A := by
 induction xs with
 | nil => intro a h0 h1; exact ⟨h0, h1⟩
 | cons x xs ih =>
  intro a h0 h1
  have hx := h x (by simp)
  exact ih (fun y hy => h y (by simp [hy])) (max a x) (by omega) (by omega)
theorem eyeK_bd {m : Mod} {l : List Int} {x y : Int} {i k : Nat} (h : Way m x y i) (hl : LB l) : 0 ≤ eyeK m l x y i k ∧ eyeK m l x y i k ≤ 21601 := by
 unfold eyeK
 refine foldmax_bd (by decide) (fun z hz => ?_) 0 (by decide) (by decide)
 obtain ⟨s, hs, rfl⟩ := List.mem_map.1 hz
 obtain ⟨j, hj⟩ := List.getElem?_of_mem (List.mem_of_mem_take hs)
 exact (eyeE_bd h hl hj).2.2.2
def eyeR (m : Mod) (s p : Int) : Int × Int :=
 if askE m s p ≠ 0 then (0, askE m s p) else if eyeS m (ownS m) (m.ss.getD s.toNat default).x (m.ss.getD s.toNat default).y p.toNat > 2000 then (0, 9) else (eyeS m (ownS m) (m.ss.getD s.toNat default).x (m.ss.getD s.toNat default).y p.toNat, 0)
theorem foldmax_le {xs : List Int} {A : Int} : ∀ a, (xs.foldl max a ≤ A ↔ a ≤ A ∧ ∀ x ∈ xs, x ≤ A) := by
 induction xs with
 | nil => intro a; simp
 | cons x xs ih =>
  intro a
  rw [List.foldl_cons, ih]
  simp only [List.mem_cons, forall_eq_or_imp]
  constructor
  ·rintro ⟨h1, h2⟩; exact ⟨by omega, by omega, h2⟩
  ·rintro ⟨h1, h2, h3⟩; exact ⟨by omega, h3⟩
end Go.Proofs.YtnhhfkgldoeifaaGreatDoor.Pn

namespace Go.Proofs.YtnhhfkgldoeifaaGreatDoor.Pn
open Go
def hgS (m : Mod) (i : Nat) : Int := m.hs.getD ((m.ps.getD i default).y * m.W + (m.ps.getD i default).x).toNat default
theorem head_eq {m : Mod} {l : List Int} {i : Nat} : headS m l i = hgS m i + l.getD i default := rfl
def more2 (m : Mod) (l : List Int) (lo : Int) (i : Nat) (s : Int × Int × Int) : Int := topS m l s.1 * s.2.2 - lo * (s.2.2 - s.2.1) - hgS m i * s.2.1
def needE (m : Mod) (l : List Int) (lo : Int) (i : Nat) (s : Int × Int × Int) : Int := if more2 m l lo i s ≥ 0 then more2 m l lo i s / s.2.1 + 1 else 0
def needA (m : Mod) (l : List Int) (i s : Nat) (a : Int) : Int := ((stepsS m (m.ss.getD s default).x (m.ss.getD s default).y i).map (needE m l (m.ss.getD s default).lo i)).foldl max a
def needAK (m : Mod) (l : List Int) (i s : Nat) (a : Int) (k : Nat) : Int := (((stepsS m (m.ss.getD s default).x (m.ss.getD s default).y i).take k).map (needE m l (m.ss.getD s default).lo i)).foldl max a
def needK (m : Mod) (l : List Int) (i : Nat) : Nat → Int
 | 0 => 0
 | k + 1 => needA m l i k (needK m l i k)
def needS (m : Mod) (l : List Int) (i : Nat) : Int := needK m l i m.ss.length
section
variable {m : Mod} {l : List Int} {i s k : Nat} {a : Int}
theorem need_all : needAK m l i s a (stepsS m (m.ss.getD s default).x (m.ss.getD s default).y i).length = needA m l i s a := by unfold needAK needA; rw [List.take_length]
theorem need_0 : needAK m l i s a 0 = a := by unfold needAK; rfl
theorem need_next {u : Int × Int × Int} (h : (stepsS m (m.ss.getD s default).x (m.ss.getD s default).y i)[k]? = some u) : needAK m l i s a (k + 1) = max (needAK m l i s a k) (needE m l (m.ss.getD s default).lo i u) := by
 unfold needAK
 rw [List.take_add_one, h, List.map_append, List.foldl_append]; rfl
theorem hgS_bd (g : Good m) : 0 ≤ hgS m i ∧ hgS m i ≤ 500 := g.hb _
theorem need_bd1 {x y lo : Int} {u : Int × Int × Int} (h : Way m x y i) (hl : LB l) (he : 0 ≤ lo ∧ lo ≤ 2000) (hs : (stepsS m x y i)[k]? = some u) :
  (0 ≤ topS m l u.1 * u.2.2 ∧ topS m l u.1 * u.2.2 ≤ 21600) ∧ (0 ≤ lo * (u.2.2 - u.2.1) ∧ lo * (u.2.2 - u.2.1) ≤ 54000) ∧ (0 ≤ hgS m i * u.2.1 ∧ hgS m i * u.2.1 ≤ 13500) ∧ (0 ≤ needE m l lo i u ∧ needE m l lo i u ≤ 21601) := by
 have h1 := h.step hs
 have h2 := mul_bd (C := 27) (top_bd h.g hl u.1) (b := u.2.2) (by omega)
 have h3 := mul_bd (C := 27) he (b := u.2.2 - u.2.1) (by omega)
 have h4 := mul_bd (C := 27) (hgS_bd (i := i) h.g) (b := u.2.1) (by omega)
 refine ⟨by omega, by omega, by omega, ?_⟩
 unfold needE
 split
 ·rename_i h5
  have h6 : more2 m l lo i u ≤ 21600 := by unfold more2; omega
  have := div_bd (a := more2 m l lo i u) (A := 21600) (b := u.2.1) (by omega) (by omega)
  omega
 ·omega
theorem needA_bd (g : Good m) (hl : LB l) (hi : i < m.ps.length) (hs : s < m.ss.length) (ha : 0 ≤ a ∧ a ≤ 21601) : 0 ≤ needAK m l i s a k ∧ needAK m l i s a k ≤ 21601 := by
 have hst := g.st hs
 unfold needAK
 refine foldmax_bd (by decide) (fun z hz => ?_) a ha.1 ha.2
 obtain ⟨u, hu, rfl⟩ := List.mem_map.1 hz
 obtain ⟨j, hj⟩ := List.getElem?_of_mem (List.mem_of_mem_take hu)
 exact (need_bd1 ⟨g, hi, by omega, by omega⟩ hl (by omega) hj).2.2.2.2
theorem needK_bd (g : Good m) (hl : LB l) (hi : i < m.ps.length) : ∀ {k : Nat}, k ≤ m.ss.length → 0 ≤ needK m l i k ∧ needK m l i k ≤ 21601
 | 0, _ => ⟨Int.le_refl _, by show (0 : Int) ≤ _; decide⟩
 | k + 1, h => by
  have h1 := needK_bd g hl hi (k := k) (by omega)
  have h2 := needA_bd (k := (stepsS m (m.ss.getD k default).x (m.ss.getD k default).y i).length) g hl hi (s := k) (by omega) h1
  rw [need_all] at h2
  exact h2
end
end Go.Proofs.YtnhhfkgldoeifaaGreatDoor.Pn

namespace Go.Proofs.YtnhhfkgldoeifaaGreatDoor.Pn
open Go
def nxK (m : Mod) (l : List Int) (k : Nat) : List Int := (List.range 6).map fun i => if i < k then max (l.getD i default) (needS m l i) else l.getD i default
def nextS (m : Mod) (l : List Int) : List Int := nxK m l m.ps.length
def tooF (m : Mod) (x : List Int) : Option Nat := (List.range m.ps.length).find? fun i => decide (x.getD i default > (m.ps.getD i default).most)
def rndS (m : Mod) : Nat → List Int → Int → List Int × Int × Int
 | 0, l, _ => (l, 0, -1)
 | f + 1, l, r => match tooF m (nextS m l) with
  | some i => (l, r + 1, (i : Int))
  | none => if nextS m l = l then (l, 0, -1) else rndS m f (nextS m l) (r + 1)
def own6 (m : Mod) : List Int := owK m m.ps.length
def roundsS (m : Mod) : List Int × Int × Int := rndS m 1801 (own6 m) 0
section
variable {m : Mod} {l : List Int} {i k : Nat}
theorem nx_len : (nxK m l k).length = 6 := by simp [nxK]
theorem nx_at (h : i < 6) : (nxK m l k).getD i default = if i < k then max (l.getD i default) (needS m l i) else l.getD i default := by
 simp [nxK, List.getD_eq_getElem?_getD, h]
theorem nx_out (h : ¬ i < 6) : (nxK m l k).getD i default = 0 := by
 rw [List.getD_eq_getElem?_getD, List.getElem?_eq_none (by rw [nx_len]; omega)]; rfl
theorem ln_ext {a b : List Int} (h : ∀ i, i < 6 → a.getD i default = b.getD i default) : ln a = ln b := by
 unfold ln
 rw [h 0 (by omega), h 1 (by omega), h 2 (by omega), h 3 (by omega), h 4 (by omega), h 5 (by omega)]
theorem nx_0 : ln (nxK m l 0) = ln l := ln_ext (fun i hi => by rw [nx_at hi, if_neg (by omega)])
theorem nx_set (h : k < 6) : (nxK m l k).set k (max ((nxK m l k).getD k default) (needS m l k)) = nxK m l (k + 1) := by
 apply List.ext_getElem?
 intro j
 rcases Nat.lt_or_ge j 6 with hj | hj
 ·have e : ∀ xs : List Int, xs.length = 6 → xs[j]? = some (xs.getD j default) := fun xs hx => by
   rw [List.getD_eq_getElem?_getD, List.getElem?_eq_getElem (by omega)]; rfl
  rw [e _ (by rw [List.length_set, nx_len]), e _ nx_len, nx_at hj]
  congr 1
  rw [List.getD_eq_getElem?_getD, List.getElem?_set]
  split
  ·rename_i h2; subst h2
   rw [if_pos (by rw [nx_len]; exact hj), if_pos (by omega), nx_at hj, if_neg (by omega)]; rfl
  ·rename_i h2
   rw [← List.getD_eq_getElem?_getD, nx_at hj]
   by_cases h3 : j < k
   ·rw [if_pos h3, if_pos (by omega)]
   ·rw [if_neg h3, if_neg (by omega)]
 ·rw [List.getElem?_eq_none (by rw [List.length_set, nx_len]; exact hj), List.getElem?_eq_none (by rw [nx_len]; exact hj)]
theorem ext6 {a b : List Int} (ha : a.length = 6) (hb : b.length = 6) (h : ∀ i, i < 6 → a.getD i default = b.getD i default) : a = b := by
 apply List.ext_getElem?
 intro j
 rcases Nat.lt_or_ge j 6 with hj | hj
 ·have e : ∀ xs : List Int, xs.length = 6 → xs[j]? = some (xs.getD j default) := fun xs hx => by
   rw [List.getD_eq_getElem?_getD, List.getElem?_eq_getElem (by omega)]; rfl
  rw [e _ ha, e _ hb, h j hj]
 ·rw [List.getElem?_eq_none (by omega), List.getElem?_eq_none (by omega)]
theorem too_some {x : List Int} (hk : k < m.ps.length) (hall : ∀ i, i < k → ¬ x.getD i default > (m.ps.getD i default).most) (h : x.getD k default > (m.ps.getD k default).most) : tooF m x = some k := by
 unfold tooF
 rw [List.find?_eq_some_iff_append]
 refine ⟨decide_eq_true h, List.range k, (List.range (m.ps.length - k - 1)).map (fun j => k + 1 + j), ?_, fun a ha => by simpa using hall a (List.mem_range.1 ha)⟩
 apply List.ext_getElem?
 intro j
 rcases Nat.lt_trichotomy j k with h1 | h1 | h1
 ·rw [List.getElem?_append_left (by simpa using h1), List.getElem?_range (by omega), List.getElem?_range h1]
 ·subst h1
  rw [List.getElem?_append_right (by simp), List.getElem?_range hk]; simp
 ·rw [List.getElem?_append_right (by simp; omega)]
  have e : j - (List.range k).length = (j - k - 1) + 1 := by simp; omega
  rw [e, List.getElem?_cons_succ, List.getElem?_map]
  rcases Nat.lt_or_ge j m.ps.length with h2 | h2
  ·rw [List.getElem?_range h2, List.getElem?_range (by omega)]
   simp; omega
  ·rw [List.getElem?_eq_none (by simpa using h2), List.getElem?_eq_none (by simp; omega)]; rfl
theorem too_none {x : List Int} : tooF m x = none ↔ ∀ i, i < m.ps.length → ¬ x.getD i default > (m.ps.getD i default).most := by
 unfold tooF
 rw [List.find?_eq_none]
 constructor
 ·intro h i hi; have := h i (List.mem_range.2 hi); simpa using this
 ·intro h i hi; have := h i (List.mem_range.1 hi); simpa using this
theorem sum_le {a b : List Int} (hl : a.length = b.length) (h : ∀ i, a.getD i default ≤ b.getD i default) : a.sum ≤ b.sum ∧ (a ≠ b → a.sum + 1 ≤ b.sum) := by
 induction a generalizing b with
 | nil =>
  cases b with
  | nil => exact ⟨Int.le_refl _, fun h => absurd rfl h⟩
  | cons x xs => simp at hl
 | cons x xs ih =>
  cases b with
  | nil => simp at hl
  | cons y ys =>
   have h0 := h 0
   simp only [List.getD_cons_zero] at h0
   have h1 := ih (b := ys) (by simpa using hl) (fun i => by have := h (i + 1); simpa using this)
   simp only [List.sum_cons]
   refine ⟨by omega, fun hne => ?_⟩
   by_cases hxy : x = y
   ·subst hxy
    have := h1.2 (fun e => hne (by rw [e]))
    omega
   ·have := h1.1; omega
theorem sum_bd {a : List Int} {A : Int} (h : ∀ i, a.getD i default ≤ A) : a.sum ≤ a.length * A := by
 induction a with
 | nil => simp
 | cons x xs ih =>
  have h0 := h 0
  have h1 := ih (fun i => by have := h (i + 1); simpa using this)
  simp only [List.getD_cons_zero] at h0
  simp only [List.sum_cons, List.length_cons]
  rw [Int.natCast_add, Int.add_mul]
  omega
theorem next_lb (g : Good m) (hl : LB l) (ht : tooF m (nextS m l) = none) : LB (nextS m l) := fun i => by
 rcases Nat.lt_or_ge i 6 with hi | hi
 ·have h1 := hl i
  rcases Nat.lt_or_ge i m.ps.length with h2 | h2
  ·have h3 := too_none.1 ht i h2
   have h4 := g.p i h2
   have h5 : (nextS m l).getD i default = max (l.getD i default) (needS m l i) := by unfold nextS; rw [nx_at hi, if_pos h2]
   omega
  ·have h5 : (nextS m l).getD i default = l.getD i default := by unfold nextS; rw [nx_at hi, if_neg (by omega)]
   omega
 ·have h5 : (nextS m l).getD i default = 0 := by unfold nextS; rw [nx_out (by omega)]
  omega
theorem next_ge (h6 : l.length = 6) (i : Nat) : l.getD i default ≤ (nextS m l).getD i default := by
 unfold nextS
 rcases Nat.lt_or_ge i 6 with hi | hi
 ·rw [nx_at hi]; split <;> omega
 ·rw [nx_out (by omega), List.getD_eq_getElem?_getD, List.getElem?_eq_none (by omega)]; decide
theorem next_sum (h6 : l.length = 6) (hne : nextS m l ≠ l) : l.sum + 1 ≤ (nextS m l).sum := (sum_le (by unfold nextS; rw [nx_len, h6]) (next_ge h6)).2 (fun e => hne e.symm)
theorem rnd_some {f : Nat} {r : Int} {i : Nat} (h : tooF m (nextS m l) = some i) : rndS m (f + 1) l r = (l, r + 1, (i : Int)) := by rw [rndS, h]
theorem rnd_end {f : Nat} {r : Int} (h : tooF m (nextS m l) = none) (he : nextS m l = l) : rndS m (f + 1) l r = (l, 0, -1) := by rw [rndS, h]; simp only; rw [if_pos he]
theorem rnd_next {f : Nat} {r : Int} (h : tooF m (nextS m l) = none) (he : ¬ nextS m l = l) : rndS m (f + 1) l r = rndS m f (nextS m l) (r + 1) := by rw [rndS, h]; simp only; rw [if_neg he]
theorem own6_at : (own6 m).getD i default = if i < 6 then (ownS m).getD i default else 0 := by
 unfold own6 owK
 rcases Nat.lt_or_ge i 6 with h | h
 ·rw [if_pos h]
  simp only [List.getD_eq_getElem?_getD, List.getElem?_map, List.getElem?_range h, Option.map_some, Option.getD_some]
  rw [← List.getD_eq_getElem?_getD, ← List.getD_eq_getElem?_getD]
  split
  ·rename_i h1; rw [own_at h1]
  ·rename_i h1; rw [own_out h1]
 ·rw [if_neg (by omega), List.getD_eq_getElem?_getD, List.getElem?_eq_none (by simp; omega)]; rfl
theorem own6_ln : ln (own6 m) = ln (ownS m) := ln_ext (fun i hi => by rw [own6_at, if_pos hi])
theorem own6_lb (g : Good m) : LB (own6 m) := fun i => by rw [own6_at]; split; exact g.lb i; omega
theorem own6_len : (own6 m).length = 6 := by simp [own6, owK]
theorem lb_sum (hl : LB l) (h6 : l.length = 6) : 0 ≤ l.sum ∧ l.sum ≤ 1800 := by
 have h1 := sum_bd (A := 300) (fun i => (hl i).2)
 have h2 : ∀ (a : List Int), (∀ i, 0 ≤ a.getD i default) → 0 ≤ a.sum := by
  intro a
  induction a with
  | nil => intro _; simp
  | cons x xs ih =>
   intro h
   have h0 := h 0
   have h1 := ih (fun i => by have := h (i + 1); simpa using this)
   simp only [List.getD_cons_zero] at h0
   simp only [List.sum_cons]; omega
 rw [h6] at h1
 exact ⟨h2 l (fun i => (hl i).1), by omega⟩
end
theorem rnd_len {m : Mod} : ∀ (f : Nat) (l : List Int) (r : Int), l.length = 6 → (rndS m f l r).1.length = 6
 | 0, l, r, h => h
 | f + 1, l, r, h => by
  cases ht : tooF m (nextS m l) with
  | some i => rw [rnd_some ht]; exact h
  | none =>
   by_cases he : nextS m l = l
   ·rw [rnd_end ht he]; exact h
   ·rw [rnd_next ht he]; exact rnd_len f _ _ nx_len
theorem rounds_len {m : Mod} : (roundsS m).1.length = 6 := rnd_len 1801 _ _ own6_len
theorem rnd_lb {m : Mod} (g : Good m) : ∀ (f : Nat) (l : List Int) (r : Int), LB l → LB (rndS m f l r).1
 | 0, l, r, h => h
 | f + 1, l, r, h => by
  cases ht : tooF m (nextS m l) with
  | some i => rw [rnd_some ht]; exact h
  | none =>
   by_cases he : nextS m l = l
   ·rw [rnd_end ht he]; exact h
   ·rw [rnd_next ht he]; exact rnd_lb g f _ _ (next_lb g h ht)
theorem rounds_lb {m : Mod} (g : Good m) : LB (roundsS m).1 := rnd_lb g 1801 _ _ (own6_lb g)
theorem rnd_pin {m : Mod} : ∀ (f : Nat) (l : List Int) (r : Int), (rndS m f l r).2.2 = -1 ∨ ∃ i : Nat, i < m.ps.length ∧ (rndS m f l r).2.2 = (i : Int)
 | 0, l, r => .inl rfl
 | f + 1, l, r => by
  cases ht : tooF m (nextS m l) with
  | some i =>
   rw [rnd_some ht]
   refine .inr ⟨i, ?_, rfl⟩
   unfold tooF at ht
   exact List.mem_range.1 (List.mem_of_find?_eq_some ht)
  | none =>
   by_cases he : nextS m l = l
   ·rw [rnd_end ht he]; exact .inl rfl
   ·rw [rnd_next ht he]; exact rnd_pin f _ _
theorem rounds_pin {m : Mod} : (roundsS m).2.2 = -1 ∨ ∃ i : Nat, i < m.ps.length ∧ (roundsS m).2.2 = (i : Int) := rnd_pin 1801 _ _
theorem ln_take {l : List Int} {n : Nat} (h : l.length = 6) (hn : n ≤ 6) : ln l = (l.take n).flatMap K.eI ++ (ln l).drop n := by
 have e : ∀ xs : List Int, xs.flatMap K.eI = xs.map iI := fun xs => by
  induction xs with
  | nil => rfl
  | cons x xs ih => rw [List.flatMap_cons, ih]; rfl
 have e2 : ln l = l.map iI := by
  match l, h with
  | [a, b, c, d, e, f], _ => rfl
 rw [e, List.map_take, e2, List.take_append_drop]
def lngE (m : Mod) : Int := if (chk m).2.2 ≠ 0 then (chk m).2.2 else if (roundsS m).2.2 ≠ -1 then 9 else 0
def lngL (m : Mod) : List Int := if lngE m = 0 then (roundsS m).1.take m.ps.length else []
def stkL (m : Mod) (p : Nat) : List Int := (roundsS m).1.set p (m.ps.getD p default).most
def stkB (m : Mod) (p s : Nat) : Bool := seesB m (stkL m p) (m.ss.getD s default).x (m.ss.getD s default).y (m.ss.getD s default).lo p
def stkS (m : Mod) (p : Nat) : Option Nat := (List.range m.ss.length).find? fun s => !stkB m p s
def stuckS (m : Mod) : Int × Int × Int × Int × Int :=
 if (chk m).2.2 ≠ 0 then (0, 0, 0, 0, (chk m).2.2)
 else if (roundsS m).2.2 = -1 then (0, 0, 0, 0, 4)
 else match stkS m (roundsS m).2.2.toNat with
  | some s => ((roundsS m).2.1, (roundsS m).2.2, (s : Int), (hidesS m (stkL m (roundsS m).2.2.toNat) (m.ss.getD s default).x (m.ss.getD s default).y (m.ss.getD s default).lo (roundsS m).2.2.toNat).headD 0, 0)
  | none => (0, 0, 0, 0, 4)
theorem stk_some {m : Mod} {p k : Nat} (hk : k < m.ss.length) (hall : ∀ i, i < k → stkB m p i = true) (h : stkB m p k = false) : stkS m p = some k := by
 unfold stkS
 rw [List.find?_eq_some_iff_append]
 refine ⟨by simp [h], List.range k, (List.range (m.ss.length - k - 1)).map (fun j => k + 1 + j), ?_, fun a ha => by simpa using hall a (List.mem_range.1 ha)⟩
 apply List.ext_getElem?
 intro j
 rcases Nat.lt_trichotomy j k with h1 | h1 | h1
 ·rw [List.getElem?_append_left (by simpa using h1), List.getElem?_range (by omega), List.getElem?_range h1]
 ·subst h1
  rw [List.getElem?_append_right (by simp), List.getElem?_range hk]; simp
 ·rw [List.getElem?_append_right (by simp; omega)]
  have e : j - (List.range k).length = (j - k - 1) + 1 := by simp; omega
  rw [e, List.getElem?_cons_succ, List.getElem?_map]
  rcases Nat.lt_or_ge j m.ss.length with h2 | h2
  ·rw [List.getElem?_range h2, List.getElem?_range (by omega)]
   simp; omega
  ·rw [List.getElem?_eq_none (by simpa using h2), List.getElem?_eq_none (by simp; omega)]; rfl
theorem stk_none {m : Mod} {p : Nat} (h : ∀ i, i < m.ss.length → stkB m p i = true) : stkS m p = none := by
 unfold stkS
 rw [List.find?_eq_none]
 intro i hi
 simp [h i (List.mem_range.1 hi)]
theorem stkL_lb {m : Mod} (g : Good m) {p : Nat} (hp : p < m.ps.length) : LB (stkL m p) := fun i => by
 unfold stkL
 have h1 := rounds_lb g i
 have h2 := g.p p hp
 rw [List.getD_eq_getElem?_getD, List.getElem?_set]
 split
 ·rename_i h3; subst h3
  split
  ·simp only [Option.getD_some]; omega
  ·exact ⟨by decide, by decide⟩
 ·rw [← List.getD_eq_getElem?_getD]; exact h1
end Go.Proofs.YtnhhfkgldoeifaaGreatDoor.Pn

namespace Go.Proofs.YtnhhfkgldoeifaaGreatDoor.Pn
open Go
def ptsS (n s : Nat) : List Int := selN (fun i => s.testBit i) n
theorem pts_len {n s : Nat} : (ptsS n s).length ≤ n := selN_len
def popN (s : Nat) : Nat := ((List.range 8).filter fun i => s.testBit i).length
def cmpL : List Int → List Int → Int
 | [], [] => 0
 | [], _ :: _ => -1
 | _ :: _, [] => 1
 | a :: x, b :: y => if a < b then -1 else if a > b then 1 else cmpL x y
def cmpS (a b : Int) : Int := if a < b then -1 else if a > b then 1 else 0
theorem cmp0 {a b : Int} (h : cmpS a b = 0) : a = b := by unfold cmpS at h; split at h <;> (try split at h) <;> omega
theorem cmpL_cons {a b : Int} {x y : List Int} : cmpL (a :: x) (b :: y) = if cmpS a b ≠ 0 then cmpS a b else cmpL x y := by
 unfold cmpS; rw [cmpL]
 split
 ·simp
 ·split <;> simp
theorem cmpL_drop : ∀ {k : Nat} {xs ys : List Int}, (∀ j, j < k → xs.getD j default = ys.getD j default) → k ≤ xs.length → k ≤ ys.length → cmpL xs ys = cmpL (xs.drop k) (ys.drop k)
 | 0, _, _, _, _, _ => rfl
 | k + 1, [], _, _, h, _ => by simp at h
 | k + 1, _ :: _, [], _, _, h => by simp at h
 | k + 1, x :: xs, y :: ys, hall, h1, h2 => by
  have h0 := hall 0 (by omega)
  simp at h0
  rw [cmpL_cons, if_neg (by subst h0; simp [cmpS]), List.drop_succ_cons, List.drop_succ_cons]
  exact cmpL_drop (fun j hj => by have := hall (j + 1) (by omega); simpa using this) (by simpa using h1) (by simpa using h2)
section
variable {k : Nat} {xs ys : List Int}
theorem cmpL_long (hall : ∀ j, j < k → xs.getD j default = ys.getD j default) (h1 : k < xs.length) (h2 : k = ys.length) : cmpL xs ys = 1 := by
 rw [cmpL_drop hall (by omega) (by omega), show ys.drop k = [] from List.drop_of_length_le (by omega), List.drop_eq_getElem_cons h1]; rfl
theorem cmpL_diff (hall : ∀ j, j < k → xs.getD j default = ys.getD j default) (h1 : k < xs.length) (h2 : k < ys.length) (hne : cmpS (xs.getD k default) (ys.getD k default) ≠ 0) : cmpL xs ys = cmpS (xs.getD k default) (ys.getD k default) := by
 rw [cmpL_drop hall (by omega) (by omega), List.drop_eq_getElem_cons h1, List.drop_eq_getElem_cons h2, cmpL_cons]
 simp only [List.getD_eq_getElem?_getD, List.getElem?_eq_getElem h1, List.getElem?_eq_getElem h2, Option.getD_some] at hne ⊢
 rw [if_pos hne]
theorem cmpL_short (hall : ∀ j, j < k → xs.getD j default = ys.getD j default) (h1 : k = xs.length) (h2 : k < ys.length) : cmpL xs ys = -1 := by
 rw [cmpL_drop hall (by omega) (by omega), show xs.drop k = [] from List.drop_of_length_le (by omega), List.drop_eq_getElem_cons h2]; rfl
theorem cmpL_same (hall : ∀ j, j < k → xs.getD j default = ys.getD j default) (h1 : k = xs.length) (h2 : k = ys.length) : cmpL xs ys = 0 := by
 rw [cmpL_drop hall (by omega) (by omega), show xs.drop k = [] from List.drop_of_length_le (by omega), show ys.drop k = [] from List.drop_of_length_le (by omega)]; rfl
end
def fromS (b : List Int) : Int := if b.length = 0 then 0 else b.getD (b.length - 1) default + 1
def listsS : Nat → List Int → Int → List (List Int)
 | 0, b, _ => [b]
 | m + 1, b, n => (List.range (n - fromS b).toNat).flatMap fun (j : Nat) => listsS m (b ++ [fromS b + (j : Int)]) n
def lstA (n k : Nat) : List (List Int) := (List.range k).flatMap fun m => listsS m [] n
def ltL (a b : List Int) : Prop := a.length < b.length ∨ a.length = b.length ∧ cmpL a b < 0
instance (a b : List Int) : Decidable (ltL a b) := inferInstanceAs (Decidable (_ ∨ _))
theorem cmpL_tr : ∀ {a b c : List Int}, cmpL a b < 0 → cmpL b c < 0 → cmpL a c < 0
 | [], [], _, h, _ => by simp [cmpL] at h
 | [], _ :: _, [], _, h => by simp [cmpL] at h
 | [], _ :: _, _ :: _, _, _ => by simp [cmpL]
 | _ :: _, [], _, h, _ => by simp [cmpL] at h
 | _ :: _, _ :: _, [], _, h => by simp [cmpL] at h
 | a :: x, b :: y, c :: z, h1, h2 => by
  rw [cmpL] at h1 h2 ⊢
  by_cases hac : a < c
  ·rw [if_pos hac]; omega
  ·by_cases hab : a < b
   ·rw [if_pos hab] at h1
    rw [if_neg (by omega)] at h2
    rw [if_pos (by omega)] at h2
    omega
   ·rw [if_neg hab] at h1
    by_cases hba : a > b
    ·rw [if_pos hba] at h1; omega
    ·rw [if_neg hba] at h1
     rw [if_neg (by omega)] at h2
     by_cases hbc : b > c
     ·rw [if_pos hbc] at h2; omega
     ·rw [if_neg hbc] at h2
      rw [if_neg hac, if_neg (by omega)]
      exact cmpL_tr h1 h2
theorem ltL_tr {a b c : List Int} (h1 : ltL a b) (h2 : ltL b c) : ltL a c := by
 unfold ltL at *
 rcases h1 with h1 | ⟨h1, h3⟩ <;> rcases h2 with h2 | ⟨h2, h4⟩
 ·left; omega
 ·left; omega
 ·left; omega
 ·right; exact ⟨by omega, cmpL_tr h3 h4⟩
def chainL : List (List Int) → Bool
 | [] => true
 | a :: l => (match l with | [] => true | b :: _ => decide (ltL a b)) && chainL l
theorem chainL_pw : ∀ {l : List (List Int)}, chainL l = true → l.Pairwise ltL
 | [], _ => .nil
 | [a], _ => by simp
 | a :: b :: l, h => by
  simp only [chainL, Bool.and_eq_true, decide_eq_true_eq] at h
  have ih := chainL_pw (l := b :: l) (by simp only [chainL, Bool.and_eq_true]; exact h.2)
  refine .cons (fun x hx => ?_) ih
  rcases List.mem_cons.1 hx with rfl | hx
  ·exact h.1
  ·exact ltL_tr h.1 (List.rel_of_pairwise_cons ih hx)
def maskS (z : List Int) : Nat := z.foldl (fun s i => s + 2 ^ i.toNat) 0
theorem lst_all : (List.range 7).all (fun n => chainL (lstA n (n + 1)) && (List.range (2 ^ n)).all (fun s => decide (ptsS n s ∈ lstA n (n + 1)) && decide ((ptsS n s).length = popN s) && decide (bitsL ((s : Nat) : Int) = ptsS n s)) && (lstA n (n + 1)).all (fun z => decide (maskS z < 2 ^ n) && decide (ptsS n (maskS z) = z))) = true := by decide +kernel
section
variable {n : Nat}
theorem lst_spec (hn : n ≤ 6) : (lstA n (n + 1)).Pairwise ltL ∧ (∀ s, s < 2 ^ n → ptsS n s ∈ lstA n (n + 1) ∧ (ptsS n s).length = popN s ∧ bitsL (s : Int) = ptsS n s) ∧ ∀ z ∈ lstA n (n + 1), ∃ s, s < 2 ^ n ∧ ptsS n s = z := by
 have h := List.all_eq_true.1 lst_all n (List.mem_range.2 (by omega))
 simp only [Bool.and_eq_true] at h
 refine ⟨chainL_pw h.1.1, fun s hs => ?_, fun z hz => ?_⟩
 ·have := List.all_eq_true.1 h.1.2 s (List.mem_range.2 hs)
  simp only [Bool.and_eq_true, decide_eq_true_eq] at this
  exact ⟨this.1.1, this.1.2, this.2⟩
 ·have := List.all_eq_true.1 h.2 z hz
  simp only [Bool.and_eq_true, decide_eq_true_eq] at this
  exact ⟨_, this.1, this.2⟩
def fewF (p : Nat → Bool) (n : Nat) : Nat → Option (List Int)
 | 0 => none
 | s + 1 => match fewF p n s with
  | none => if p s then some (ptsS n s) else none
  | some l => if (ptsS n s).length > l.length ∨ ((ptsS n s).length = l.length ∧ cmpL (ptsS n s) l > 0) then some l else if p s then some (ptsS n s) else some l
def fewS (p : Nat → Bool) (n : Nat) : Option (List Int) := fewF p n (2 ^ n)
variable {p : Nat → Bool} {T : List Int → Bool}
end
section
end
section
variable {m k : Nat} {b : List Int} {n : Int}
end
theorem shl_val {n : Nat} (hn : n ≤ 6) : IntKind.i64.wrap (1 * 2 ^ min (Int.toNat (n : Int)) IntKind.i64.bits) = ((2 ^ n : Nat) : Int) := by
 have : n = 0 ∨ n = 1 ∨ n = 2 ∨ n = 3 ∨ n = 4 ∨ n = 5 ∨ n = 6 := by omega
 rcases this with h | h | h | h | h | h | h <;> subst h <;> decide
theorem pow_bd {n : Nat} (hn : n ≤ 6) : 2 ^ n ≤ 64 := by
 have : n = 0 ∨ n = 1 ∨ n = 2 ∨ n = 3 ∨ n = 4 ∨ n = 5 ∨ n = 6 := by omega
 rcases this with h | h | h | h | h | h | h <;> subst h <;> decide
end Go.Proofs.YtnhhfkgldoeifaaGreatDoor.Pn

namespace Go.Proofs.YtnhhfkgldoeifaaGreatDoor.Pn
open Go
def orI (a b : Int) : Int := IntKind.i64.wrap (BitVec.ofInt IntKind.i64.bits a ||| BitVec.ofInt IntKind.i64.bits b).toNat
theorem or_all : (List.range 64).all (fun a => (List.range 64).all fun b => decide (orI ((a : Nat) : Int) ((b : Nat) : Int) = setN (fun i => a.testBit i || b.testBit i) 6)) = true := by decide +kernel
theorem setN_bit {p : Nat → Bool} {n i : Nat} (hn : n ≤ 6) (hi : i < 6) : (setN p n).toNat.testBit i = (p i && decide (i < n)) := by
 have h := bits_set (p := p) hn
 have h1 : ((i : Int) ∈ bitsL (setN p n)) ↔ (i : Int) ∈ selN p n := by rw [h]
 unfold bitsL at h1
 rw [mem_sel, mem_sel] at h1
 rw [Bool.eq_iff_iff]
 simp only [Bool.and_eq_true, decide_eq_true_eq]
 constructor
 ·intro h2
  obtain ⟨j, h3, h4, h5⟩ := h1.1 ⟨i, hi, h2, rfl⟩
  have : i = j := by omega
  subst this; exact ⟨h4, h3⟩
 ·rintro ⟨h2, h3⟩
  obtain ⟨j, h3, h4, h5⟩ := h1.2 ⟨i, h3, h2, rfl⟩
  have : i = j := by omega
  subst this; exact h4
theorem or_set {p q : Nat → Bool} {n : Nat} (hn : n ≤ 6) : orI (setN p n) (setN q n) = setN (fun i => p i || q i) n := by
 have hp := setN_63 (p := p) hn
 have hq := setN_63 (p := q) hn
 have h := List.all_eq_true.1 (List.all_eq_true.1 or_all (setN p n).toNat (List.mem_range.2 (by omega))) (setN q n).toNat (List.mem_range.2 (by omega))
 have h := of_decide_eq_true h
 rw [Int.toNat_of_nonneg hp.1, Int.toNat_of_nonneg hq.1] at h
 rw [h, ← setN_cut (p := fun i => p i || q i) hn]
 refine setN_congr (fun i hi => ?_)
 rw [setN_bit hn hi, setN_bit hn hi]
 cases p i <;> cases q i <;> simp
theorem full_set {n : Nat} (hn : n ≤ 6) : ((2 ^ n : Nat) : Int) - 1 = setN (fun _ => true) n := by
 have : n = 0 ∨ n = 1 ∨ n = 2 ∨ n = 3 ∨ n = 4 ∨ n = 5 ∨ n = 6 := by omega
 rcases this with h | h | h | h | h | h | h <;> subst h <;> decide
theorem set_full {p : Nat → Bool} {n : Nat} (hn : n ≤ 6) : decide (setN p n = ((2 ^ n : Nat) : Int) - 1) = (List.range n).all p := by
 rw [full_set hn, Bool.eq_iff_iff, decide_eq_true_iff, List.all_eq_true]
 constructor
 ·intro h i hi
  have hi' := List.mem_range.1 hi
  have h1 := setN_bit (p := p) hn (i := i) (by omega)
  rw [h, setN_bit hn (by omega), decide_eq_true hi'] at h1
  simpa using h1.symm
 ·intro h
  exact setN_congr (fun i hi => h i (List.mem_range.2 hi))
theorem setN_none {n : Nat} : setN (fun _ => false) n = 0 := by
 induction n with
 | zero => rfl
 | succ n ih => rw [setN_no rfl, ih]
def sureB (m : Mod) (s i : Nat) : Bool := seesB m (ownS m) (m.ss.getD s default).x (m.ss.getD s default).y (m.ss.getD s default).lo i
def sureZ (m : Mod) (k : Nat) : List Int := (List.range k).map fun s => setN (sureB m s) m.ps.length
def covB (m : Mod) (pts : List Int) : Bool := (List.range m.ps.length).all fun i => pts.any fun s => sureB m s.toNat i
theorem sureZ_succ {m : Mod} {k : Nat} : sureZ m (k + 1) = sureZ m k ++ [setN (sureB m k) m.ps.length] := by unfold sureZ; rw [List.range_succ, List.map_append]; rfl
theorem sureZ_len {m : Mod} {k : Nat} : (sureZ m k).length = k := by simp [sureZ]
theorem sureZ_at {m : Mod} {k s : Nat} (h : s < k) : (sureZ m k).getD s default = setN (sureB m s) m.ps.length := by
 simp [sureZ, List.getD_eq_getElem?_getD, h]
def fewM (m : Mod) : Option (List Int) := fewS (fun s => covB m (ptsS m.ss.length s)) m.ss.length
def fewE (m : Mod) : Int := if (chk m).2.2 ≠ 0 then (chk m).2.2 else if (fewM m).isSome = false then 9 else 0
def fewL (m : Mod) : List Int := if (chk m).2.2 ≠ 0 then [] else (fewM m).getD []
def pinOK (W D : Int) (p : PinT) : Prop := nameB p.nm = true ∧ onF W D p.x p.y ∧ lenE p = 0
def apart (a b : PinT) : Prop := nmEq a.nm b.nm = false ∧ ¬ (a.x = b.x ∧ a.y = b.y)
theorem any_take_f {E : Type} [Inhabited E] {xs : List E} {q : E → Bool} {i : Nat} (hi : i ≤ xs.length) : (xs.take i).any q = false ↔ ∀ j, j < i → q (xs.getD j default) = false := ⟨fun h j hj => any_false_at h hj hi, anyT_f hi⟩
theorem pins_ok {W D : Int} {ps : List PinT} : (∀ i, i < ps.length → pinE W D ps i = 0) ↔ (∀ p ∈ ps, pinOK W D p) ∧ ps.Pairwise apart := by
 have key : ∀ i, i < ps.length → (pinE W D ps i = 0 ↔ pinOK W D (ps.getD i default) ∧ ∀ j, j < i → apart (ps.getD j default) (ps.getD i default)) := fun i hi => by
  unfold pinE pinOK apart
  cases h1 : nameB (ps.getD i default).nm with
  | false => simp
  | true =>
   simp only [Bool.true_eq_false, if_false, true_and]
   cases h2 : (ps.take i).any fun q => nmEq q.nm (ps.getD i default).nm with
   | true =>
    simp only [if_true]
    constructor
    ·intro h; cases h
    ·rintro ⟨_, h⟩
     rw [any_take_f (by omega) |>.2 (fun j hj => (h j hj).1)] at h2; cases h2
   | false =>
    have h2' := (any_take_f (by omega)).1 h2
    simp only [Bool.false_eq_true, if_false]
    by_cases h3 : onF W D (ps.getD i default).x (ps.getD i default).y
    ·rw [if_neg (fun h => h h3)]
     cases h4 : (ps.take i).any (atP (ps.getD i default).x (ps.getD i default).y) with
     | true =>
      simp only [if_true]
      constructor
      ·intro h; cases h
      ·rintro ⟨_, h⟩
       rw [any_take_f (by omega) |>.2 (fun j hj => by unfold atP; exact decide_eq_false (h j hj).2)] at h4; cases h4
     | false =>
      have h4' := (any_take_f (by omega)).1 h4
      simp only [Bool.false_eq_true, if_false]
      constructor
      ·intro h
       exact ⟨⟨h3, h⟩, fun j hj => ⟨h2' j hj, by have := h4' j hj; unfold atP at this; simpa using this⟩⟩
      ·rintro ⟨⟨_, h⟩, _⟩; exact h
    ·rw [if_pos h3]
     constructor
     ·intro h; cases h
     ·rintro ⟨⟨h, _⟩, _⟩; exact absurd h h3
 constructor
 ·intro h
  refine ⟨fun p hp => ?_, ?_⟩
  ·obtain ⟨i, hi, rfl⟩ := List.getElem_of_mem hp
   have h1 := ((key i hi).1 (h i hi)).1
   rwa [List.getD_eq_getElem?_getD, List.getElem?_eq_getElem hi] at h1
  ·rw [List.pairwise_iff_getElem]
   intro i j hi hj hij
   have h1 := ((key j hj).1 (h j hj)).2 i hij
   rwa [List.getD_eq_getElem?_getD, List.getElem?_eq_getElem hi, List.getD_eq_getElem?_getD, List.getElem?_eq_getElem hj] at h1
 ·rintro ⟨h1, h2⟩ i hi
  refine (key i hi).2 ⟨h1 _ (K.gt_mem hi), fun j hj => ?_⟩
  have h3 := List.pairwise_iff_getElem.1 h2 j i (by omega) hi hj
  rwa [List.getD_eq_getElem?_getD, List.getElem?_eq_getElem (show j < ps.length by omega), List.getD_eq_getElem?_getD, List.getElem?_eq_getElem hi]
theorem chk_less {m : Mod} {ps : List PinT} (h : (chk m).2.2 = 0) (hs : List.Sublist ps m.ps) : (chk { m with ps := ps }).2.2 = 0 := by
 obtain ⟨h1, h2, h3, h4, h5, h6, h7⟩ := chk_part.1 h
 refine chk_part.2 ⟨h1, h2, h3, by have := hs.length_le; simp only; omega, ?_, h6, h7⟩
 have h8 : ∀ i, i < m.ps.length → pinE m.W m.D m.ps i = 0 := fun i hi => fst_zero.1 h5 i (List.mem_range.2 hi)
 obtain ⟨h9, h10⟩ := pins_ok.1 h8
 exact fst_ps (pins_ok.2 ⟨fun p hp => h9 p (hs.subset hp), h10.sublist hs⟩)
def lessP (m : Mod) (s k : Nat) : List PinT := ((List.range k).filter fun i => !s.testBit i).map fun i => m.ps.getD i default
theorem less_yes {m : Mod} {s k : Nat} (h : s.testBit k = false) : lessP m s (k + 1) = lessP m s k ++ [m.ps.getD k default] := by
 unfold lessP; rw [List.range_succ, List.filter_append, List.map_append]; simp [h]
theorem less_no {m : Mod} {s k : Nat} (h : s.testBit k = true) : lessP m s (k + 1) = lessP m s k := by
 unfold lessP; rw [List.range_succ, List.filter_append, List.map_append]; simp [h]
theorem less_len {m : Mod} {s k : Nat} : (lessP m s k).length ≤ k := by
 unfold lessP; rw [List.length_map]; exact Nat.le_trans (List.length_filter_le _ _) (by simp)
theorem less_sub {m : Mod} {s : Nat} : List.Sublist (lessP m s m.ps.length) m.ps := by
 have e : (List.range m.ps.length).map (fun i => m.ps.getD i default) = m.ps := by
  apply List.ext_getElem?
  intro i
  rw [List.getElem?_map]
  rcases Nat.lt_or_ge i m.ps.length with h | h
  ·rw [List.getElem?_range h]; simp [List.getD_eq_getElem?_getD, h]
  ·rw [List.getElem?_eq_none (by simpa using h), List.getElem?_eq_none h]; rfl
 have h : List.Sublist (lessP m s m.ps.length) ((List.range m.ps.length).map fun i => m.ps.getD i default) := by
  unfold lessP; exact List.Sublist.map _ (List.filter_sublist)
 rwa [e] at h
def lessM (m : Mod) (s : Nat) : Mod := { m with ps := lessP m s m.ps.length }
def allB (m : Mod) : Bool := (List.range m.ss.length).all fun s => (List.range m.ps.length).all (sureB m s)
def offM (m : Mod) : Option (List Int) := fewS (fun s => allB (lessM m s)) m.ps.length
def offL (m : Mod) : List Int := if (chk m).2.2 ≠ 0 then [] else (offM m).getD []
theorem bit_all : (List.range 64).all (fun s => (List.range 6).all fun i => decide (IntKind.i64.wrap (BitVec.ofInt IntKind.i64.bits (((s : Nat) : Int).fdiv (2 ^ min (Int.toNat ((i : Nat) : Int)) IntKind.i64.bits)) &&& BitVec.ofInt IntKind.i64.bits 1).toNat = if s.testBit i then 1 else 0)) = true := by decide +kernel
theorem bit_val {s i : Nat} (hs : s < 64) (hi : i < 6) : IntKind.i64.wrap (BitVec.ofInt IntKind.i64.bits (((s : Nat) : Int).fdiv (2 ^ min (Int.toNat ((i : Nat) : Int)) IntKind.i64.bits)) &&& BitVec.ofInt IntKind.i64.bits 1).toNat = if s.testBit i then 1 else 0 := by
 have h := List.all_eq_true.1 (List.all_eq_true.1 bit_all s (List.mem_range.2 hs)) i (List.mem_range.2 hi)
 simpa using h
end Go.Proofs.YtnhhfkgldoeifaaGreatDoor.Pn

namespace Go.Proofs.YtnhhfkgldoeifaaGreatDoor.Pn
open Go
abbrev Acc := Int × Int × List Int × Int
def fromL (m : Mod) (x y eye : Int) : List Int := selN (seesB m (ownS m) x y eye) m.ps.length
def bstep (m : Mod) (eye x y : Int) (c : Acc) : Acc := if onF m.W m.D x y then c else if ((fromL m x y eye).length : Int) > c.2.2.2 then (x, y, fromL m x y eye, ((fromL m x y eye).length : Int)) else c
def inK (m : Mod) (eye : Int) (b : Nat) (c : Acc) : Nat → Acc
 | 0 => c
 | a + 1 => bstep m eye ((a : Int) - 1) ((b : Int) - 1) (inK m eye b c a)
def outK (m : Mod) (eye : Int) : Nat → Acc
 | 0 => (0, 0, [], -1)
 | b + 1 => inK m eye b (outK m eye b) (m.W + 2).toNat
def bestA (m : Mod) (eye : Int) : Acc := outK m eye (m.D + 2).toNat
def bestE (m : Mod) (eye : Int) : Int := if (chk m).2.2 ≠ 0 then (chk m).2.2 else if ¬ (0 ≤ eye ∧ eye ≤ 2000) then 7 else 0
def bestR (m : Mod) (eye : Int) : Int × Int × List Int := if bestE m eye = 0 then ((bestA m eye).1, (bestA m eye).2.1, (bestA m eye).2.2.1) else (0, 0, [])
section
variable {m : Mod} {eye x y : Int} {c : Acc}
theorem bstep_on (h : onF m.W m.D x y) : bstep m eye x y c = c := by unfold bstep; rw [if_pos h]
theorem bstep_gt (h : ¬ onF m.W m.D x y) (h2 : ((fromL m x y eye).length : Int) > c.2.2.2) : bstep m eye x y c = (x, y, fromL m x y eye, ((fromL m x y eye).length : Int)) := by unfold bstep; rw [if_neg h, if_pos h2]
theorem bstep_le (h : ¬ onF m.W m.D x y) (h2 : ¬ ((fromL m x y eye).length : Int) > c.2.2.2) : bstep m eye x y c = c := by unfold bstep; rw [if_neg h, if_neg h2]
def AccOK (m : Mod) (c : Acc) : Prop := c.2.2.1.length ≤ m.ps.length ∧ (-1 ≤ c.2.2.2 ∧ c.2.2.2 ≤ m.ps.length)
theorem bstep_ok (h : AccOK m c) : AccOK m (bstep m eye x y c) := by
 unfold bstep
 split
 ·exact h
 ·split
  ·have : (fromL m x y eye).length ≤ m.ps.length := selN_len
   exact ⟨this, by simp only; omega⟩
  ·exact h
theorem inK_ok {b : Nat} (h : AccOK m c) : ∀ a, AccOK m (inK m eye b c a)
 | 0 => h
 | a + 1 => bstep_ok (inK_ok h a)
theorem outK_ok : ∀ b, AccOK m (outK m eye b)
 | 0 => ⟨Nat.zero_le _, by simp only [outK]; omega⟩
 | b + 1 => inK_ok (outK_ok b) _
end
end Go.Proofs.YtnhhfkgldoeifaaGreatDoor.Pn

namespace Go.Proofs.YtnhhfkgldoeifaaGreatDoor.Pn
open Go
def oakS : ByteArray := ⟨#[111, 97, 107]⟩
def elmS : ByteArray := ⟨#[101, 108, 109]⟩
def ashS : ByteArray := ⟨#[97, 115, 104]⟩
def modS (most : Int) : Mod := ⟨4, 2, [0, 10, 0, 20, 0, 0, 0, 0], [⟨oakS, 0, 0, 30, 60⟩, ⟨elmS, 2, 0, 26, 100⟩, ⟨ashS, 3, 0, 5, most⟩], [⟨-2, 0, 30, 100⟩]⟩
def mod1 (most : Int) : Mod := { modS most with ps := (modS most).ps.take 1 }
theorem ex_chk : (chk (modS 40)).2.2 = 0 := by decide +kernel
theorem ex_hid : hidL (modS 40) 0 30 2 = [0, 2] ∧ hidE (modS 40) 0 30 2 = 0 := by decide +kernel
theorem ex_seen : sureL (modS 40) 0 = [0] ∧ mayL (modS 40) 0 = [0, 1, 2] ∧ seenE (modS 40) 0 = 0 := by decide +kernel
theorem ex_eye : eyeR (modS 40) 0 1 = (35, 0) ∧ eyeR (modS 40) 0 0 = (0, 0) ∧ eyeR (modS 40) 0 2 = (34, 0) := by decide +kernel
theorem ex_lng : lngL (modS 40) = [30, 31, 12] ∧ lngE (modS 40) = 0 ∧ lngE (modS 11) = 9 := by decide +kernel
theorem ex_stuck : stuckS (modS 40) = (0, 0, 0, 0, 4) ∧ stuckS (modS 11) = (2, 2, 0, 2, 0) := by decide +kernel
theorem ex_best : bestR (modS 40) 30 = (-1, -1, [0, 1, 2]) ∧ bestE (modS 40) 30 = 0 := by decide +kernel
theorem ex_off : offL (modS 40) = [0, 1] := by decide +kernel
theorem ex_few : fewE (modS 40) = 9 ∧ fewL (mod1 40) = [0] ∧ fewE (mod1 40) = 0 := by decide +kernel
end Go.Proofs.YtnhhfkgldoeifaaGreatDoor.Pn
end
section
namespace Go.Proofs.YtnhhfkgldoeifaaGreatDoor.Pn
open Go
end Go.Proofs.YtnhhfkgldoeifaaGreatDoor.Pn

namespace Go.Proofs.YtnhhfkgldoeifaaGreatDoor.Pn
open Go
structure SP (m : Mod) (s p : Nat) : Prop where
 c : (chk m).2.2 = 0
 s : s < m.ss.length
 p : p < m.ps.length
section
variable {m : Mod} {s p : Nat}
theorem SP.g (h : SP m s p) : Good m := chk_good h.c
theorem SP.ask (h : SP m s p) : askE m s p = 0 := by
 have := h.s
 have := h.p
 have := h.c
 unfold askE asE; rw [if_neg (by omega), if_neg (by omega)]
theorem SP.hid (h : SP m s p) {eye : Int} (he : 0 ≤ eye ∧ eye ≤ 2000) : hidE m s eye p = 0 := hid_0 h.ask he
theorem SP.hidL (h : SP m s p) {eye : Int} (he : 0 ≤ eye ∧ eye ≤ 2000) : hidL m s eye p = hidesS m (ownS m) (m.ss.getD s default).x (m.ss.getD s default).y eye p := hidL_0 (h.hid he)
abbrev EYE (m : Mod) (s p : Nat) : Int := eyeS m (ownS m) (m.ss.getD s default).x (m.ss.getD s default).y p
theorem SP.eye (h : SP m s p) : eyeR m s p = if EYE m s p > 2000 then (0, 9) else (EYE m s p, 0) := by
 unfold eyeR; rw [if_neg (by rw [h.ask]; decide)]; rfl
theorem SP.seenE (h : SP m s p) : seenE m s = 0 := seen_0 h.c h.s
theorem SP.lo (h : SP m s p) : 0 ≤ (m.ss.getD s default).lo ∧ (m.ss.getD s default).lo ≤ (m.ss.getD s default).hi ∧ (m.ss.getD s default).hi ≤ 2000 := (h.g.st h.s).2.1
end
end Go.Proofs.YtnhhfkgldoeifaaGreatDoor.Pn

namespace Go.Proofs.YtnhhfkgldoeifaaGreatDoor.Pn
open Go
def Agree (m : Mod) (l l' : List Int) : Prop := ∀ i, i < m.ps.length → l.getD i default = l'.getD i default
section
variable {m : Mod} {l l' : List Int}
theorem Agree.top (h : Agree m l l') {f : Int} : topS m l f = topS m l' f := by
 rw [topS_eq, topS_eq]
 cases e : pinAt m f with
 | none => rfl
 | some i => simp only [h i (pinAtK_some (k := m.ps.length) e).1]
theorem Agree.needE (h : Agree m l l') {lo : Int} {i : Nat} : Go.Proofs.YtnhhfkgldoeifaaGreatDoor.Pn.needE m l lo i = Go.Proofs.YtnhhfkgldoeifaaGreatDoor.Pn.needE m l' lo i := by
 funext s; unfold Go.Proofs.YtnhhfkgldoeifaaGreatDoor.Pn.needE more2; rw [h.top]
theorem Agree.needK (h : Agree m l l') {i : Nat} : ∀ k, Go.Proofs.YtnhhfkgldoeifaaGreatDoor.Pn.needK m l i k = Go.Proofs.YtnhhfkgldoeifaaGreatDoor.Pn.needK m l' i k
 | 0 => rfl
 | k + 1 => by
  unfold Go.Proofs.YtnhhfkgldoeifaaGreatDoor.Pn.needK
  rw [h.needK k]
  unfold needA
  rw [h.needE]
theorem Agree.need (h : Agree m l l') {i : Nat} : needS m l i = needS m l' i := h.needK _
theorem Agree.symm (h : Agree m l l') : Agree m l' l := fun i hi => (h i hi).symm
end
section
variable {m : Mod} {l : List Int} {x y lo : Int} {i k : Nat} {s : Int × Int × Int}
theorem step_ne (h : Way m x y i) (hs : (stepsS m x y i)[k]? = some s) : s.1 ≠ fldS m i := by
 obtain ⟨j, h1, h2, rfl⟩ := steps_at hs
 intro e
 have h3 := fld_inj h.g.w h2 (h.g.p i h.i).1 e
 have gx := gS_x (m := m) (x := x) (y := y) (i := i)
 have gy := gS_y (m := m) (x := x) (y := y) (i := i)
 have hb := h.gb
 obtain ⟨e1, e2⟩ := h3
 unfold atX at e1
 unfold atY at e2
 generalize hg : gS m x y i = g at *
 obtain ⟨q, hq⟩ := gx
 obtain ⟨r, hr⟩ := gy
 rw [hq, Int.mul_ediv_cancel_left _ (by omega)] at e1
 rw [hr, Int.mul_ediv_cancel_left _ (by omega)] at e2
 have z : ∀ t d : Int, d = g * t → t * ((j : Int) + 1) = d → t = 0 := fun t d hd he => by
  have h4 : t * (g - ((j : Int) + 1)) = 0 := by rw [Int.mul_sub, he, hd, Int.mul_comm t g]; omega
  rcases Int.mul_eq_zero.1 h4 with h5 | h5
  ·exact h5
  ·omega
 have hq0 := z q _ hq (by omega)
 have hr0 := z r _ hr (by omega)
 subst hq0 hr0
 have : gS m x y i = 0 := by
  unfold gS gcdS
  rw [show (m.ps.getD i default).x - x = 0 by omega, show (m.ps.getD i default).y - y = 0 by omega]; rfl
 omega
end
section
variable {m : Mod} {l : List Int} {i : Nat}
theorem needK_le {v : Int} (hv : 0 ≤ v) : ∀ k, needK m l i k ≤ v ↔ ∀ s, s < k → ∀ u ∈ stepsS m (m.ss.getD s default).x (m.ss.getD s default).y i, needE m l (m.ss.getD s default).lo i u ≤ v
 | 0 => ⟨fun _ s hs => absurd hs (Nat.not_lt_zero s), fun _ => hv⟩
 | k + 1 => by
  unfold needK needA
  rw [foldmax_le, needK_le hv k]
  constructor
  ·rintro ⟨h1, h2⟩ s hs u hu
   rcases Nat.lt_or_ge s k with h3 | h3
   ·exact h1 s h3 u hu
   ·obtain rfl : s = k := by omega
    exact h2 _ (List.mem_map.2 ⟨u, hu, rfl⟩)
  ·intro h
   refine ⟨fun s hs u hu => h s (by omega) u hu, fun z hz => ?_⟩
   obtain ⟨u, hu, rfl⟩ := List.mem_map.1 hz
   exact h k (by omega) u hu
theorem needS_nn : 0 ≤ needS m l i := by
 unfold needS
 have : ∀ k, 0 ≤ needK m l i k := by
  intro k
  induction k with
  | zero => exact Int.le_refl _
  | succ k ih =>
   unfold needK needA
   exact Int.le_trans ih ((foldmax_le (A := _) _).1 (Int.le_refl _)).1
 exact this _
end
section
variable {m : Mod} {l l6 : List Int} {i k : Nat}
theorem agree_eq {n : Nat} {a b : List Int} (ha : a.length = n) (hb : b.length = n) (h : ∀ i, i < n → a.getD i default = b.getD i default) : a = b := by
 apply List.ext_getElem (by omega)
 intro i h1 h2
 have := h i (by omega)
 rwa [List.getD_eq_getElem?_getD, List.getD_eq_getElem?_getD, List.getElem?_eq_getElem h1, List.getElem?_eq_getElem h2] at this
end
end Go.Proofs.YtnhhfkgldoeifaaGreatDoor.Pn

namespace Go.Proofs.YtnhhfkgldoeifaaGreatDoor.Pn
open Go
end Go.Proofs.YtnhhfkgldoeifaaGreatDoor.Pn

namespace Go.Proofs.YtnhhfkgldoeifaaGreatDoor.Pn
open Go
section
variable {m k : Nat} {f n : Int}
end
end Go.Proofs.YtnhhfkgldoeifaaGreatDoor.Pn

namespace Go.Proofs.YtnhhfkgldoeifaaGreatDoor.Pn
open Go
theorem seen_mem {m : Mod} {l : List Int} {s i : Nat} {eye : Int} (hi : i < m.ps.length) : decide ((i : Int) ∈ seenL m l s eye) = seesB m l (m.ss.getD s default).x (m.ss.getD s default).y eye i := by
 unfold seenL
 cases h : seesB m l (m.ss.getD s default).x (m.ss.getD s default).y eye i with
 | true => exact decide_eq_true (mem_sel.2 ⟨i, hi, h, rfl⟩)
 | false =>
  refine decide_eq_false fun h2 => ?_
  obtain ⟨j, _, hj, e⟩ := mem_sel.1 h2
  obtain rfl : i = j := by omega
  rw [h] at hj; cases hj
section
variable {m : Mod} {z : List Int} {k : Nat}
end
section
variable {m : Mod} {eye : Int} {b a : Nat} {c : Acc}
end
end Go.Proofs.YtnhhfkgldoeifaaGreatDoor.Pn
end
section
namespace Go.Proofs.YtnhhfkgldoeifaaGreatDoor.Pn
open Go
structure InB (m : Mod) (l : List Int) : Prop where
 n : l.length = m.ps.length
 b : ∀ i, i < m.ps.length → (m.ps.getD i default).len ≤ l.getD i default ∧ l.getD i default ≤ (m.ps.getD i default).most
section
variable {m : Mod} {l l' : List Int} {i k : Nat}
def Leq (m : Mod) (p : Nat) (l l' : List Int) : Prop := ∀ i, i < m.ps.length → i ≠ p → l.getD i default ≤ l'.getD i default
theorem Leq.top {p : Nat} {f : Int} (h : Leq m p l l') (hne : f ≠ fldS m p) : topS m l f ≤ topS m l' f := by
 rw [topS_eq, topS_eq]
 cases e : pinAt m f with
 | none => exact Int.le_refl _
 | some j =>
  have hj := pinAtK_some (k := m.ps.length) e
  have hjp : j ≠ p := fun e2 => hne (by rw [← e2]; exact hj.2.symm)
  have := h j hj.1 hjp
  simp only; omega
theorem Leq.needE {x y lo : Int} {u : Int × Int × Int} (h : Leq m i l l') (hw : Way m x y i) (hs : (stepsS m x y i)[k]? = some u) : Go.Proofs.YtnhhfkgldoeifaaGreatDoor.Pn.needE m l lo i u ≤ Go.Proofs.YtnhhfkgldoeifaaGreatDoor.Pn.needE m l' lo i u := by
 have h1 := hw.step hs
 have h2 := h.top (step_ne hw hs)
 have h3 : topS m l u.1 * u.2.2 ≤ topS m l' u.1 * u.2.2 := Int.mul_le_mul_of_nonneg_right h2 (by omega)
 have h4 : more2 m l lo i u ≤ more2 m l' lo i u := by unfold more2; omega
 unfold Go.Proofs.YtnhhfkgldoeifaaGreatDoor.Pn.needE
 split
 ·rename_i h5
  rw [if_pos (by omega)]
  have := Int.ediv_le_ediv (c := u.2.1) (by omega) h4
  omega
 ·split
  ·rename_i h5
   have : 0 ≤ more2 m l' lo i u / u.2.1 := Int.ediv_nonneg (by omega) (by omega)
   omega
  ·exact Int.le_refl _
theorem Leq.need (h : Leq m i l l') (g : Good m) (hi : i < m.ps.length) : needS m l i ≤ needS m l' i := by
 have hz : 0 ≤ needS m l' i := needS_nn
 unfold needS at *
 rw [needK_le hz]
 intro s hs u hu
 have hst := g.st hs
 obtain ⟨k, hk⟩ := List.getElem?_of_mem hu
 refine Int.le_trans (h.needE ⟨g, hi, by omega, by omega⟩ hk) ?_
 exact (needK_le hz _).1 (Int.le_refl _) s hs u hu
theorem InB.lb (g : Good m) (h : InB m l) : LB l := fun i => by
 rcases Nat.lt_or_ge i m.ps.length with h1 | h1
 ·have := h.b i h1; have := g.p i h1; omega
 ·rw [List.getD_eq_getElem?_getD, List.getElem?_eq_none (by rw [h.n]; exact h1)]; exact ⟨Int.le_refl _, by show (0 : Int) ≤ 300; decide⟩
end
end Go.Proofs.YtnhhfkgldoeifaaGreatDoor.Pn

namespace Go.Proofs.YtnhhfkgldoeifaaGreatDoor.Pn
open Go
section
variable {m : Mod} {l : List Int} {i k : Nat}
end
end Go.Proofs.YtnhhfkgldoeifaaGreatDoor.Pn

namespace Go.Proofs.YtnhhfkgldoeifaaGreatDoor.Pn
open Go
section
variable {m : Mod} {l : List Int} {i k : Nat}
end
end Go.Proofs.YtnhhfkgldoeifaaGreatDoor.Pn

namespace Go.Proofs.YtnhhfkgldoeifaaGreatDoor.Pn
open Go
structure Same (m m' : Mod) : Prop where
 n : m'.ps.length = m.ps.length
 k : m'.ss.length = m.ss.length
 len : ∀ i, i < m.ps.length → (m'.ps.getD i default).len = (m.ps.getD i default).len ∧ (m'.ps.getD i default).most = (m.ps.getD i default).most
 need : ∀ l i, i < m.ps.length → needS m' l i = needS m l i
 lo : ∀ l i s, i < m.ps.length → s < m.ss.length → seesB m' l (m'.ss.getD s default).x (m'.ss.getD s default).y (m'.ss.getD s default).lo i = seesB m l (m.ss.getD s default).x (m.ss.getD s default).y (m.ss.getD s default).lo i
 hi : ∀ l i s, i < m.ps.length → s < m.ss.length → seesB m' l (m'.ss.getD s default).x (m'.ss.getD s default).y (m'.ss.getD s default).hi i = seesB m l (m.ss.getD s default).x (m.ss.getD s default).y (m.ss.getD s default).hi i
section
variable {m m' : Mod} {l : List Int}
theorem Same.own (h : Same m m') : ownS m' = ownS m := agree_eq (n := m.ps.length) (by rw [own_len, h.n]) own_len (fun i hi => by rw [own_at (by rw [h.n]; exact hi), own_at hi, (h.len i hi).1])
theorem Same.own6 (h : Same m m') : own6 m' = own6 m := by
 refine ext6 own6_len own6_len fun i hi => ?_
 rw [own6_at, own6_at, h.own]
theorem Same.next (h : Same m m') (h6 : m.ps.length ≤ 6) : nextS m' l = nextS m l := by
 unfold nextS
 rw [h.n]
 refine ext6 nx_len nx_len fun i hi => ?_
 rw [nx_at hi, nx_at hi]
 split
 ·rename_i h1; rw [h.need l i h1]
 ·rfl
end
section
variable {m : Mod} {l : List Int} {c x y eye lo : Int} {i k : Nat} {u : Int × Int × Int}
end
end Go.Proofs.YtnhhfkgldoeifaaGreatDoor.Pn

namespace Go.Proofs.YtnhhfkgldoeifaaGreatDoor.Pn
open Go
section
variable {m : Mod} {t : Bool} {l : List Int} {x y eye lo : Int} {i k : Nat}
theorem gcd_comm (a b : Int) : gcdS a b = gcdS b a := by unfold gcdS; rw [Int.gcd_comm]
end
end Go.Proofs.YtnhhfkgldoeifaaGreatDoor.Pn

namespace Go.Proofs.YtnhhfkgldoeifaaGreatDoor.Pn
open Go
def turnS (ys : List Int) (n : Nat) : Int := if ys.length = 0 then 0 else ys.getD (n % ys.length) default
def anyE (m : Mod) (ys : List Int) (i : Nat) : Int := (m.ps.getD i default).len + turnS ys i % ((m.ps.getD i default).most - (m.ps.getD i default).len + 1)
def anyL (m : Mod) (ys : List Int) (k : Nat) : List Int := (List.range k).map (anyE m ys)
section
variable {m : Mod} {ys : List Int} {k i : Nat}
theorem anyL_len : (anyL m ys k).length = k := by simp [anyL]
theorem anyL_at (h : i < k) : (anyL m ys k).getD i default = anyE m ys i := by
 unfold anyL; rw [List.getD_eq_getElem?_getD, List.getElem?_map, List.getElem?_range h]; rfl
theorem anyE_bd (g : Good m) (hi : i < m.ps.length) : (0 ≤ turnS ys i % ((m.ps.getD i default).most - (m.ps.getD i default).len + 1) ∧ turnS ys i % ((m.ps.getD i default).most - (m.ps.getD i default).len + 1) ≤ (m.ps.getD i default).most - (m.ps.getD i default).len) := by
 have h := g.p i hi
 have h1 := Int.emod_nonneg (turnS ys i) (b := (m.ps.getD i default).most - (m.ps.getD i default).len + 1) (by omega)
 have h2 := Int.emod_lt_of_pos (turnS ys i) (b := (m.ps.getD i default).most - (m.ps.getD i default).len + 1) (by omega)
 omega
theorem any_in (g : Good m) : InB m (anyL m ys m.ps.length) := ⟨anyL_len, fun i hi => by
 have := anyE_bd (ys := ys) g hi
 rw [anyL_at hi]; unfold anyE; omega⟩
end
end Go.Proofs.YtnhhfkgldoeifaaGreatDoor.Pn

namespace Go.Proofs.YtnhhfkgldoeifaaGreatDoor.Pn
open Go
section
variable {m : Mod} {l b : List Int} {p k i : Nat}
end
end Go.Proofs.YtnhhfkgldoeifaaGreatDoor.Pn
end
section
namespace Go.Proofs.YtnhhfkgldoeifaaGreatDoor.Pn
open Go.ChangeShapes Go.WideShapes Go.Deep Go.RowKit Go.Joins
section
variable {H : Type} {enc : TypeId × Value → H} {P : Program} {w : World} {base : Nat} {spare : Nat → Bool} {held : Bool}
theorem open_slice_fields {t e : TypeId} {fs : Array Field} {fuel : Nat} {cs : List Value} {x : DataW H × List MemPlace} (ht : P.underlying t = some (.slice e)) (he : P.underlying e = some (.struct fs))
  (hone : oneCellFields P fs = true) (hC : P.cellsOf e = fs.size) (h : DataW.trod enc P w base spare held fuel t cs = some x) :
  (cs = [.slice none 0 0] ∧ x = (.nil, [])) ∨
  ∃ (a : Addr) (len cap m : Nat) (D : Nat → DataW H) (Pl : Nat → List MemPlace), cs = [.slice (some a) len cap] ∧ base ≤ a.block ∧ len ≤ cap ∧ cap ≤ maxLen ∧ m = (if spare a.block then cap else len) ∧
   x = (.slice ((List.range len).map D) ((List.range (m - len)).map fun j => D (len + j)), MemPlace.row a (m * fs.size) ++ (List.range m).flatMap Pl) ∧
   ∀ i, i < m → ∃ (ys : List (DataW H × List MemPlace)) (n : Nat), D i = .agg (ys.map (·.1)) ∧ Pl i = ys.flatMap (·.2) ∧ ys.length = fs.size ∧
    ∀ (j : Nat) (f : Field), fs[j]? = some f → ∃ (v : Value) (y : DataW H × List MemPlace), w.cell? (a.add (i * fs.size + j)) = some v ∧ ys[j]? = some y ∧ DataW.trod enc P w base spare held n f.type [v] = some y := by
 rcases open_slice ht h with h0 | ⟨a, len, cap, m, n, D, Pl, hcs, hb, hl, hm, hmm, hx, hi⟩
 ·exact .inl h0
 ·refine .inr ⟨a, len, cap, m, D, Pl, hcs, hb, hl, hm, hmm, by rw [hC] at hx; exact hx, fun i him => ?_⟩
  obtain ⟨cs', hc, ht'⟩ := hi i him
  rw [hC] at hc
  obtain ⟨ys, n', hn', hy, hlen, hyl, hf⟩ := DataW.trod_struct he ht'
  obtain ⟨_, hcl, hat⟩ := World.cells?_some hc
  simp only [Prod.mk.injEq] at hy
  refine ⟨ys, n', hy.1, hy.2, hyl, fun j f hj => ?_⟩
  obtain ⟨ho, hk⟩ := hone_of hone j f hj
  have hjl : j < fs.size := (Array.getElem?_eq_some_iff.1 hj).1
  have hcell := hat j hjl
  have hv : cs'[j]? = some (cs'[j]'(by omega)) := List.getElem?_eq_getElem (by omega)
  have h1 := hf j f hj
  rw [ho, hk] at h1
  have hone' : (cs'.drop j).take 1 = [cs'[j]'(by omega)] := by
   rw [List.drop_eq_getElem_cons (by omega)]
   rfl
  rw [hone'] at h1
  have hys : ys[j]? = some (ys[j]'(by omega)) := List.getElem?_eq_getElem (by omega)
  refine ⟨_, _, ?_, hys, h1.trans hys⟩
  rw [← Go.Deep.add_add, hcell, hv]
theorem open_agg5 {r : Reach} {b0 : Nat} {t : TypeId} {f0 f1 f2 f3 f4 : Field} {v : Value} {d : DataW H} {p : List MemPlace} (hs : P.underlying t = some (.struct #[f0, f1, f2, f3, f4])) (hone : oneCellFields P #[f0, f1, f2, f3, f4] = true) (hC : P.cellsOf t = 5)
  (hv : Value.okWide P w r b0 t v) (h : DataW.Trod enc P w base spare held t v d p) :
  ∃ (v0 v1 v2 v3 v4 : Value) (y0 y1 y2 y3 y4 : DataW H × List MemPlace) (n : Nat), v = .agg #[v0, v1, v2, v3, v4] ∧ d = .agg [y0.1, y1.1, y2.1, y3.1, y4.1] ∧ p = y0.2 ++ (y1.2 ++ (y2.2 ++ (y3.2 ++ y4.2))) ∧
   DataW.trod enc P w base spare held n f0.type [v0] = some y0 ∧ DataW.trod enc P w base spare held n f1.type [v1] = some y1 ∧ DataW.trod enc P w base spare held n f2.type [v2] = some y2 ∧ DataW.trod enc P w base spare held n f3.type [v3] = some y3 ∧ DataW.trod enc P w base spare held n f4.type [v4] = some y4 := by
 obtain ⟨cs, rfl, hsz⟩ := okWide_struct hs hv
 obtain ⟨l⟩ := cs
 match l, hsz.trans hC with
 | [c0, c1, c2, c3, c4], _ =>
  obtain ⟨fuel, hf⟩ := h
  obtain ⟨xs, n, _, hx, _, hlen, hg⟩ := DataW.trod_struct hs hf
  obtain ⟨o0, k0⟩ := hone_of hone 0 f0 rfl
  obtain ⟨o1, k1⟩ := hone_of hone 1 f1 rfl
  obtain ⟨o2, k2⟩ := hone_of hone 2 f2 rfl
  obtain ⟨o3, k3⟩ := hone_of hone 3 f3 rfl
  obtain ⟨o4, k4⟩ := hone_of hone 4 f4 rfl
  match xs, hlen with
  | [y0, y1, y2, y3, y4], _ =>
   simp only [Prod.mk.injEq] at hx
   exact ⟨c0, c1, c2, c3, c4, y0, y1, y2, y3, y4, n, rfl, by simpa using hx.1, by simpa using hx.2, by simpa [Value.cells, o0, k0] using hg 0 f0 rfl, by simpa [Value.cells, o1, k1] using hg 1 f1 rfl, by simpa [Value.cells, o2, k2] using hg 2 f2 rfl, by simpa [Value.cells, o3, k3] using hg 3 f3 rfl, by simpa [Value.cells, o4, k4] using hg 4 f4 rfl⟩
theorem list_of {E : Type} [Inhabited E] {Q : Nat → E → Prop} : ∀ {n : Nat}, (∀ i, i < n → ∃ x, Q i x) → ∃ xs : List E, xs.length = n ∧ ∀ i x, xs[i]? = some x → Q i x
 | 0, _ => ⟨[], rfl, fun i x h => by simp at h⟩
 | n + 1, h => by
  obtain ⟨xs, hl, hq⟩ := list_of (n := n) (Q := Q) (fun i hi => h i (by omega))
  obtain ⟨x, hx⟩ := h n (by omega)
  refine ⟨xs ++ [x], by simp [hl], fun i y hy => ?_⟩
  rw [List.getElem?_append] at hy
  split at hy
  ·exact hq i y hy
  ·rename_i h1
   have : i = n := by
    rcases Nat.lt_or_ge (i - xs.length) 1 with h2 | h2
    ·omega
    ·rw [List.getElem?_eq_none (by simpa using h2)] at hy; cases hy
   subst this
   rw [hl, Nat.sub_self] at hy
   simp at hy
   subst hy; exact hx
def SlD {E : Type} (w : World) (size : Nat) (e : E → List Value) (v : Value) (d : DataW H) (A : Option Addr) (c : Nat) (xs : List E) : Prop :=
 v = .slice A xs.length c ∧ K.Rd w A size e xs ∧ (d = .nil ∧ xs = [] ∨ ∃ el rest, d = .slice el rest ∧ el.length = xs.length)
theorem slice_ints {t e : TypeId} {fuel : Nat} {v : Value} {y : DataW H × List MemPlace} (ht : P.underlying t = some (.slice e)) (he : P.underlying e = some (.int .i64)) (hc : P.cellsOf e = 1) (h : DataW.trod enc P w base spare held fuel t [v] = some y) :
  ∃ A c xs, SlD w 1 K.eI v y.1 A c xs := by
 rcases open_ints ht he hc h with ⟨hcs, hx⟩ | ⟨a, len, cap, zs, hcs, _, hl, hm, hz, hx, hcell, _⟩
 ·simp at hcs; subst hcs
  exact ⟨none, 0, [], rfl, K.Rd.nil, .inl ⟨by rw [hx], rfl⟩⟩
 ·simp at hcs; subst hcs
  have hlz : len ≤ zs.length := by rw [hz]; split <;> omega
  have hlen : (zs.take len).length = len := by rw [List.length_take]; omega
  refine ⟨some a, cap, zs.take len, by rw [hlen], fun k x hk => ?_, .inr ⟨_, _, by rw [hx], by simp [lits]⟩⟩
  have hk1 : k < len := by have := (List.getElem?_eq_some_iff.1 hk).1; omega
  have hc1 := hcell k (by omega)
  have hzk : zs.getD k 0 = x := by
   rw [List.getElem?_take, if_pos hk1] at hk
   rw [List.getD_eq_getElem?_getD, hk]; rfl
  rw [hzk] at hc1
  refine ⟨a, rfl, ?_, fun j u hu => ?_⟩
  ·have := World.block_lt_of_cell? w _ hc1
   rwa [K.addr_block] at this
  ·cases j with
   | zero => simp [K.eI] at hu; subst hu; rw [Nat.mul_one, K.addr_add0]; exact hc1
   | succ j => simp [K.eI] at hu
theorem slice_pins {t e : TypeId} {f0 f1 f2 f3 f4 : Field} {fuel : Nat} {v : Value} {y : DataW H × List MemPlace} (ht : P.underlying t = some (.slice e)) (he : P.underlying e = some (.struct #[f0, f1, f2, f3, f4])) (hone : oneCellFields P #[f0, f1, f2, f3, f4] = true) (hC : P.cellsOf e = 5)
  (h0 : P.underlying f0.type = some .string) (h1 : P.underlying f1.type = some (.int .i64)) (h2 : P.underlying f2.type = some (.int .i64)) (h3 : P.underlying f3.type = some (.int .i64)) (h4 : P.underlying f4.type = some (.int .i64)) (h : DataW.trod enc P w base spare held fuel t [v] = some y) :
  ∃ A c xs, SlD w 5 eN v y.1 A c xs := by
 rcases open_slice_fields ht he hone hC h with ⟨hcs, hx⟩ | ⟨a, len, cap, m, D, Pl, hcs, _, hl, hm, hmm, hx, hi⟩
 ·simp at hcs; subst hcs
  exact ⟨none, 0, [], rfl, K.Rd.nil, .inl ⟨by rw [hx], rfl⟩⟩
 ·simp at hcs; subst hcs
  have hlm : len ≤ m := by rw [hmm]; split <;> omega
  obtain ⟨xs, hxl, hq⟩ := list_of (n := len) (Q := fun i (x : PinT) => w.cell? (a.add (i * 5)) = some (.string x.nm) ∧ w.cell? (a.add (i * 5 + 1)) = some (.int .i64 x.x) ∧ w.cell? (a.add (i * 5 + 2)) = some (.int .i64 x.y) ∧ w.cell? (a.add (i * 5 + 3)) = some (.int .i64 x.len) ∧ w.cell? (a.add (i * 5 + 4)) = some (.int .i64 x.most)) (fun i hil => by
   obtain ⟨ys, n, _, _, _, hf⟩ := hi i (by omega)
   obtain ⟨v0, y0, hc0, _, ht0⟩ := hf 0 f0 rfl
   obtain ⟨v1, y1, hc1, _, ht1⟩ := hf 1 f1 rfl
   obtain ⟨v2, y2, hc2, _, ht2⟩ := hf 2 f2 rfl
   obtain ⟨v3, y3, hc3, _, ht3⟩ := hf 3 f3 rfl
   obtain ⟨v4, y4, hc4, _, ht4⟩ := hf 4 f4 rfl
   obtain ⟨a0, e0, _, _⟩ := DataW.trod_string h0 ht0
   obtain ⟨a1, e1, _, _⟩ := DataW.trod_int h1 ht1
   obtain ⟨a2, e2, _, _⟩ := DataW.trod_int h2 ht2
   obtain ⟨a3, e3, _, _⟩ := DataW.trod_int h3 ht3
   obtain ⟨a4, e4, _, _⟩ := DataW.trod_int h4 ht4
   simp at e0 e1 e2 e3 e4; subst e0 e1 e2 e3 e4
   exact ⟨⟨a0, a1, a2, a3, a4⟩, hc0, hc1, hc2, hc3, hc4⟩)
  refine ⟨some a, cap, xs, by rw [hxl], fun k x hk => ?_, .inr ⟨_, _, by rw [hx], by simp [hxl]⟩⟩
  obtain ⟨q0, q1, q2, q3, q4⟩ := hq k x hk
  refine ⟨a, rfl, ?_, fun j u hu => ?_⟩
  ·have := World.block_lt_of_cell? w _ q0
   rwa [K.addr_block] at this
  ·match j with
   | 0 => simp [eN] at hu; subst hu; rw [K.addr_add0]; exact q0
   | 1 => simp [eN] at hu; subst hu; rw [Go.Deep.add_add]; exact q1
   | 2 => simp [eN] at hu; subst hu; rw [Go.Deep.add_add]; exact q2
   | 3 => simp [eN] at hu; subst hu; rw [Go.Deep.add_add]; exact q3
   | 4 => simp [eN] at hu; subst hu; rw [Go.Deep.add_add]; exact q4
   | j + 5 => simp [eN] at hu
theorem slice_stands {t e e2 : TypeId} {f0 f1 f2 g0 g1 : Field} {fuel : Nat} {v : Value} {y : DataW H × List MemPlace} (ht : P.underlying t = some (.slice e)) (he : P.underlying e = some (.struct #[f0, f1, f2])) (he2 : P.underlying e2 = some (.struct #[g0, g1])) (hC : P.cellsOf e = 4) (hC2 : P.cellsOf e2 = 2) (o0 : f0.offset = 0) (o1 : f1.offset = 1) (o2 : f2.offset = 2) (t2 : f2.type = e2) (c0 : P.cellsOf f0.type = 1) (c1 : P.cellsOf f1.type = 1)
  (q0 : g0.offset = 0) (q1 : g1.offset = 1) (d0 : P.cellsOf g0.type = 1) (d1 : P.cellsOf g1.type = 1) (h0 : P.underlying f0.type = some (.int .i64)) (h1 : P.underlying f1.type = some (.int .i64)) (i0 : P.underlying g0.type = some (.int .i64)) (i1 : P.underlying g1.type = some (.int .i64)) (h : DataW.trod enc P w base spare held fuel t [v] = some y) :
  ∃ A c xs, SlD w 4 eS v y.1 A c xs := by
 rcases open_slice ht h with ⟨hcs, hx⟩ | ⟨a, len, cap, m, n, D, Pl, hcs, _, hl, hm, hmm, hx, hi⟩
 ·simp at hcs; subst hcs
  exact ⟨none, 0, [], rfl, K.Rd.nil, .inl ⟨by rw [hx], rfl⟩⟩
 ·simp at hcs; subst hcs
  have hlm : len ≤ m := by rw [hmm]; split <;> omega
  obtain ⟨xs, hxl, hq⟩ := list_of (n := len) (Q := fun i (x : StT) => w.cell? (a.add (i * 4)) = some (.int .i64 x.x) ∧ w.cell? ((a.add (i * 4)).add 1) = some (.int .i64 x.y) ∧ w.cell? ((a.add (i * 4)).add 2) = some (.int .i64 x.lo) ∧ w.cell? ((a.add (i * 4)).add 3) = some (.int .i64 x.hi)) (fun i hil => by
   obtain ⟨cs', hc, ht'⟩ := hi i (by omega)
   rw [hC] at hc
   obtain ⟨_, hcl, hat⟩ := World.cells?_some hc
   obtain ⟨ys, n', _, _, _, hyl, hf⟩ := DataW.trod_struct he ht'
   match cs', hcl with
   | [x0, x1, x2, x3], _ =>
    have r0 := hf 0 f0 rfl
    have r1 := hf 1 f1 rfl
    have r2 := hf 2 f2 rfl
    rw [o0, c0] at r0
    rw [o1, c1] at r1
    rw [o2, t2, hC2] at r2
    match ys, hyl with
    | [y0, y1, y2], _ =>
     simp at r0 r1 r2
     obtain ⟨ys2, n2, _, _, _, hyl2, hf2⟩ := DataW.trod_struct he2 r2
     have s0 := hf2 0 g0 rfl
     have s1 := hf2 1 g1 rfl
     rw [q0, d0] at s0
     rw [q1, d1] at s1
     match ys2, hyl2 with
     | [z0, z1], _ =>
      simp at s0 s1
      obtain ⟨k0, e0, _, _⟩ := DataW.trod_int h0 r0
      obtain ⟨k1, e1, _, _⟩ := DataW.trod_int h1 r1
      obtain ⟨k2, e2, _, _⟩ := DataW.trod_int i0 s0
      obtain ⟨k3, e3, _, _⟩ := DataW.trod_int i1 s1
      simp at e0 e1 e2 e3; subst e0 e1 e2 e3
      have a0 := hat 0 (by omega)
      have a1 := hat 1 (by omega)
      have a2 := hat 2 (by omega)
      have a3 := hat 3 (by omega)
      simp only [List.getElem?_cons_zero, List.getElem?_cons_succ] at a0 a1 a2 a3
      refine ⟨⟨k0, k1, k2, k3⟩, ?_, a1, a2, a3⟩
      rw [← a0, K.addr_add0])
  refine ⟨some a, cap, xs, by rw [hxl], fun k x hk => ?_, .inr ⟨_, _, by rw [hx], by simp [hxl]⟩⟩
  obtain ⟨w0, w1, w2, w3⟩ := hq k x hk
  refine ⟨a, rfl, ?_, fun j u hu => ?_⟩
  ·have := World.block_lt_of_cell? w _ w0
   rwa [K.addr_block] at this
  ·match j with
   | 0 => simp [eS] at hu; subst hu; rw [K.addr_add0]; exact w0
   | 1 => simp [eS] at hu; subst hu; exact w1
   | 2 => simp [eS] at hu; subst hu; exact w2
   | 3 => simp [eS] at hu; subst hu; exact w3
   | j + 4 => simp [eS] at hu
theorem slice_cap {t e : TypeId} {fuel : Nat} {A : Option Addr} {n c : Nat} {y : DataW H × List MemPlace} (ht : P.underlying t = some (.slice e)) (h : DataW.trod enc P w base spare held fuel t [.slice A n c] = some y) : n ≤ c := by
 rcases open_slice ht h with ⟨hcs, _⟩ | ⟨a, len, cap, m, _, D, Pl, hcs, _, hl, _⟩
 ·simp at hcs; omega
 ·simp at hcs; omega
end
section
variable {H : Type} {w : World} {n c : Nat} {v : Value} {d : DataW H} {A : Option Addr}
theorem sld_len {E : Type} {e : E → List Value} {xs : List E} {t et b : Nat} (h : SlD w n e v d A c xs) (ht : Tryz.prog.underlying t = some (.slice et)) (hb : Tryz.prog.bytesOf et = b) (h8 : 8 ≤ b) (hs : ∀ n ∈ d.weights Tryz.prog t, n ≤ reachBytes) : xs.length ≤ 17592186043904 := by
 rcases h.2.2 with ⟨_, rfl⟩ | ⟨el, rest, rfl, hl⟩
 ·simp
 ·have h1 := hs ((el.length + rest.length) * b) (by simp [DataW.weights, ht, hb])
  have h2 : (el.length + rest.length) * 8 ≤ (el.length + rest.length) * b := Nat.mul_le_mul_left _ h8
  have h3 : reachBytes ≤ 140737488351232 := by decide
  omega
end
section
variable {H : Type} {enc : TypeId × Value → H} {P : Program} {w : World} {base : Nat} {spare : Nat → Bool} {held : Bool}
end
section
variable {H : Type} {enc : TypeId × Value → H} {w : World} {base : Nat} {spare : Nat → Bool} {held : Bool}
set_option maxRecDepth 100000 in
theorem open_model {b0 : Nat} {v : Value} {d : DataW H} {p : List MemPlace} (hv : Value.okWide Tryz.prog w .any b0 30 v) (h : DataW.Trod enc Tryz.prog w base spare held 30 v d p) (hs : ∀ n ∈ d.weights Tryz.prog 30, n ≤ reachBytes) :
  ∃ (m : Mod) (A B C : Option Addr) (c d e : Nat), v = .agg #[.int .i64 m.W, .int .i64 m.D, .slice A m.hs.length c, .slice B m.ps.length d, .slice C m.ss.length e] ∧ K.Rd w A 1 K.eI m.hs ∧ K.Rd w B 5 eN m.ps ∧ K.Rd w C 4 eS m.ss ∧ m.hs.length ≤ 17592186043904 ∧ m.ps.length ≤ 17592186043904 ∧ m.ss.length ≤ 17592186043904 ∧ m.ps.length ≤ d := by
 obtain ⟨v0, v1, v2, v3, v4, y0, y1, y2, y3, y4, n, rfl, rfl, _, t0, t1, t2, t3, t4⟩ := open_agg5 Tryz.underlying30 (by kernel_rfl) (by kernel_rfl) hv h
 obtain ⟨W, e0, _, w0⟩ := DataW.trod_int Tryz.underlying3 t0
 obtain ⟨D, e1, _, w1⟩ := DataW.trod_int Tryz.underlying3 t1
 simp at e0 e1; subst e0 e1
 obtain ⟨A, c, hs', s2⟩ := slice_ints Tryz.underlying26 Tryz.underlying3 (by kernel_rfl) t2
 obtain ⟨B, d, ps, s3⟩ := slice_pins Tryz.underlying27 Tryz.underlying48 (by kernel_rfl) (by kernel_rfl) Tryz.underlying9 Tryz.underlying3 Tryz.underlying3 Tryz.underlying3 Tryz.underlying3 t3
 obtain ⟨C, e, ss, s4⟩ := slice_stands Tryz.underlying28 Tryz.underlying62 Tryz.underlying46 (by kernel_rfl) (by kernel_rfl) rfl rfl rfl rfl (by kernel_rfl) (by kernel_rfl) rfl rfl (by kernel_rfl) (by kernel_rfl) Tryz.underlying3 Tryz.underlying3 Tryz.underlying3 Tryz.underlying3 t4
 have l2 := sld_len s2 Tryz.underlying26 (b := 8) (by kernel_rfl) (by omega) (fun n hn => hs n (by simp [DataW.weights, Tryz.underlying30, DataW.weightsEach, hn]))
 have l3 := sld_len s3 Tryz.underlying27 (b := 48) (by kernel_rfl) (by omega) (fun n hn => hs n (by simp [DataW.weights, Tryz.underlying30, DataW.weightsEach, hn]))
 have l4 := sld_len s4 Tryz.underlying28 (b := 32) (by kernel_rfl) (by omega) (fun n hn => hs n (by simp [DataW.weights, Tryz.underlying30, DataW.weightsEach, hn]))
 obtain ⟨rfl, r2, _⟩ := s2
 obtain ⟨rfl, r3, _⟩ := s3
 obtain ⟨rfl, r4, _⟩ := s4
 exact ⟨⟨W, D, hs', ps, ss⟩, A, B, C, c, d, e, rfl, r2, r3, r4, l2, l3, l4, slice_cap Tryz.underlying27 t3⟩
end
end Go.Proofs.YtnhhfkgldoeifaaGreatDoor.Pn
end
section
namespace Go.Proofs.YtnhhfkgldoeifaaGreatDoor.Sh
open Go
def bat (b : List Int) (i k : Nat) : Int := b.getD (i * 9 + k) default
def frE (i k : Nat) : Int := if i ≠ k ∧ k ≠ 8 then 9000 else 0
def mkB (f : Nat → Nat → Int) : List Int := (List.range 81).map fun x => f (x / 9) (x % 9)
theorem mkB_len {f : Nat → Nat → Int} : (mkB f).length = 81 := by unfold mkB; simp
theorem mkB_at {f : Nat → Nat → Int} {i k : Nat} (hi : i < 9) (hk : k < 9) : bat (mkB f) i k = f i k := by
 unfold bat mkB
 rw [List.getD_eq_getElem?_getD, List.getElem?_map, List.getElem?_range (by omega)]
 show f ((i * 9 + k) / 9) ((i * 9 + k) % 9) = f i k
 rw [show (i * 9 + k) / 9 = i by omega, show (i * 9 + k) % 9 = k by omega]
def freB : List Int := mkB frE
def binS (b : List Int) (f t : Nat) (m : Int) : List Int := mkB fun i k => min (bat b i k) (bat b i f + m + bat b t k)
def bind1 (b : List Int) (f t : Nat) (m : Int) : Option (List Int) := if m ≥ bat b f t then some b else if m + bat b t f < 0 then none else some (binS b f t m)
structure Cl (b : List Int) : Prop where
 n : b.length = 81
 t : ∀ i k j, i < 9 → k < 9 → j < 9 → bat b i k ≤ bat b i j + bat b j k
 s : ∀ i k, i < 9 → k < 9 → 0 ≤ bat b i k + bat b k i
 u : ∀ i k, i < 9 → k < 9 → bat b i k ≤ frE i k
theorem fre_cl : Cl freB := by
 refine ⟨mkB_len, fun i k j hi hk hj => ?_, fun i k hi hk => ?_, fun i k hi hk => ?_⟩
 ·unfold freB; rw [mkB_at hi hk, mkB_at hi hj, mkB_at hj hk]; unfold frE; repeat' split <;> omega
 ·unfold freB; rw [mkB_at hi hk, mkB_at hk hi]; unfold frE; repeat' split <;> omega
 ·unfold freB; rw [mkB_at hi hk]; exact Int.le_refl _
theorem Cl.lo {b : List Int} (c : Cl b) {i k : Nat} (hi : i < 9) (hk : k < 9) : -9000 ≤ bat b i k ∧ bat b i k ≤ 9000 := by
 have h1 := c.s i k hi hk
 have h2 := c.u i k hi hk
 have h3 := c.u k i hk hi
 unfold frE at h2 h3
 split at h2 <;> split at h3 <;> omega
theorem bin_cl {b : List Int} {f t : Nat} {m : Int} (c : Cl b) (hf : f < 9) (ht : t < 9) (hm : 0 ≤ m + bat b t f) : Cl (binS b f t m) := by
 refine ⟨mkB_len, fun i k j hi hk hj => ?_, fun i k hi hk => ?_, fun i k hi hk => ?_⟩
 ·unfold binS; rw [mkB_at hi hk, mkB_at hi hj, mkB_at hj hk]
  have h1 := c.t i k j hi hk hj
  have h2 := c.t t k j ht hk hj
  have h3 := c.t i f j hi hf hj
  have h4 := c.t t f j ht hf hj
  omega
 ·unfold binS; rw [mkB_at hi hk, mkB_at hk hi]
  have h1 := c.s i k hi hk
  have h2 := c.t t f k ht hf hk
  have h3 := c.t t f i ht hf hi
  have h4 := c.t t i k ht hi hk
  have h5 := c.t t k i ht hk hi
  omega
 ·unfold binS; rw [mkB_at hi hk]
  have := c.u i k hi hk
  omega
theorem bind1_cl {b b' : List Int} {f t : Nat} {m : Int} (c : Cl b) (hf : f < 9) (ht : t < 9) (h : bind1 b f t m = some b') : Cl b' := by
 unfold bind1 at h
 split at h
 ·obtain rfl := Option.some.inj h; exact c
 ·split at h
  ·cases h
  ·obtain rfl := Option.some.inj h
   exact bin_cl c hf ht (by omega)
def hS (h : List Int) (i : Nat) : Int := if i < 8 then h.getD i 0 else 0
def Tr (h b : List Int) : Prop := ∀ i k, i < 9 → k < 9 → hS h k - hS h i ≤ bat b i k
theorem fre_tr {h : List Int} (hb : ∀ x ∈ h, 0 ≤ x ∧ x ≤ 9000) : Tr h freB := fun i k hi hk => by
 have hh : ∀ j, 0 ≤ hS h j ∧ hS h j ≤ 9000 := fun j => by
  unfold hS
  split
  ·rw [List.getD_eq_getElem?_getD]
   cases e : h[j]? with
   | none => exact ⟨Int.le_refl _, by show (0 : Int) ≤ 9000; decide⟩
   | some x => exact hb x (List.mem_of_getElem? e)
  ·omega
 have h1 := hh i
 have h2 := hh k
 unfold freB; rw [mkB_at hi hk]; unfold frE
 split
 ·omega
 ·rename_i hn
  by_cases e : i = k
  ·subst e; omega
  ·have : k = 8 := by omega
   subst this
   have : hS h 8 = 0 := by unfold hS; rw [if_neg (by omega)]
   omega
theorem bind1_tr {h b : List Int} {f t : Nat} {m : Int} (hb : Tr h b) (hf : f < 9) (ht : t < 9) (hm : hS h t - hS h f ≤ m) : ∃ b', bind1 b f t m = some b' ∧ Tr h b' := by
 unfold bind1
 split
 ·exact ⟨b, rfl, hb⟩
 ·have h1 := hb t f ht hf
  rw [if_neg (by omega)]
  refine ⟨_, rfl, fun i k hi hk => ?_⟩
  unfold binS; rw [mkB_at hi hk]
  have h2 := hb i k hi hk
  have h3 := hb i f hi hf
  have h4 := hb t k ht hk
  omega
structure NtT where
 kd : Int
 a : Int
 b : Int
 lo : Int
 hi : Int
instance : Inhabited NtT := ⟨⟨0, 0, 0, 0, 0⟩⟩
def eO (x : NtT) : List Value := [.int .i64 x.kd, .int .i64 x.a, .int .i64 x.b, .int .i64 x.lo, .int .i64 x.hi]
def eG (s : ByteArray) : List Value := [.string s]
def rngE (lo hi l h : Int) : Int := if ¬ ((l ≤ lo ∧ lo ≤ h) ∧ (l ≤ hi ∧ hi ≤ h)) then 7 else if lo > hi then 2 else 0
def ntE (iv : Int) (n : Nat) (x : NtT) : Int :=
 if ¬ (1 ≤ x.kd ∧ x.kd ≤ 4) then 6
 else if ¬ ((0 ≤ x.a ∧ x.a ≤ (n : Int) - 1) ∧ (0 ≤ x.b ∧ x.b ≤ (n : Int) - 1)) then 4
 else if ((x.kd = 3 ∨ x.kd = 4) ∧ x.a = x.b) ∨ (¬ (x.kd = 3 ∨ x.kd = 4) ∧ x.b ≠ 0) then 2
 else if x.kd = 1 then rngE x.lo x.hi 0 9000
 else if x.kd = 4 then rngE x.lo x.hi (-9000) 9000
 else if x.kd = 3 then rngE x.lo x.hi 0 0
 else if rngE x.lo x.hi 0 (9000 / iv) = 0 ∧ x.lo = x.hi then 2 else rngE x.lo x.hi 0 (9000 / iv)
def bnd1 (iv : Int) (x : NtT) (w : Int) : Nat × Nat × Int := if x.kd = 1 then (8, x.a.toNat, x.hi + w) else if x.kd = 2 then (8, x.a.toNat, x.hi * iv + w) else (x.b.toNat, x.a.toNat, x.hi + w)
def bnd2 (iv : Int) (x : NtT) (w : Int) : Nat × Nat × Int := if x.kd = 1 then (x.a.toNat, 8, w - x.lo) else if x.kd = 2 then (x.a.toNat, 8, w - x.lo * iv) else (x.a.toNat, x.b.toNat, w - x.lo)
def wthB (iv : Int) (b : List Int) (x : NtT) (w : Int) : List Int × Bool :=
 match bind1 b (bnd1 iv x w).1 (bnd1 iv x w).2.1 (bnd1 iv x w).2.2 with
 | none => (b, false)
 | some b1 => match bind1 b1 (bnd2 iv x w).1 (bnd2 iv x w).2.1 (bnd2 iv x w).2.2 with
  | none => (b1, false)
  | some b2 => (b2, true)
def allB (iv : Int) (ns : List NtT) (w : Int) : Nat → List Int × Bool
 | 0 => (freB, true)
 | k + 1 => if (allB iv ns w k).2 then wthB iv (allB iv ns w k).1 (ns.getD k default) w else allB iv ns w k
def NtTr (iv : Int) (h : List Int) (x : NtT) : Prop :=
 (x.kd = 1 → x.lo ≤ hS h x.a.toNat ∧ hS h x.a.toNat ≤ x.hi) ∧ (x.kd = 2 → x.lo * iv ≤ hS h x.a.toNat ∧ hS h x.a.toNat ≤ x.hi * iv) ∧
 ((x.kd = 3 ∨ x.kd = 4) → x.lo ≤ hS h x.a.toNat - hS h x.b.toNat ∧ hS h x.a.toNat - hS h x.b.toNat ≤ x.hi)
structure NtG (n : Nat) (x : NtT) : Prop where
 k : 1 ≤ x.kd ∧ x.kd ≤ 4
 a : 0 ≤ x.a ∧ x.a ≤ (n : Int) - 1
 b : 0 ≤ x.b ∧ x.b ≤ (n : Int) - 1
theorem wth_cl {iv w : Int} {b : List Int} {x : NtT} {n : Nat} (hn : n ≤ 8) (g : NtG n x) (c : Cl b) : Cl (wthB iv b x w).1 := by
 have ha := g.a
 have hb := g.b
 have e1 : (bnd1 iv x w).1 < 9 ∧ (bnd1 iv x w).2.1 < 9 := by
  unfold bnd1
  split
  ·dsimp only; omega
  ·split <;> (dsimp only; omega)
 have e2 : (bnd2 iv x w).1 < 9 ∧ (bnd2 iv x w).2.1 < 9 := by
  unfold bnd2
  split
  ·dsimp only; omega
  ·split <;> (dsimp only; omega)
 unfold wthB
 split
 ·exact c
 ·rename_i b1 h1
  have c1 := bind1_cl c e1.1 e1.2 h1
  split
  ·exact c1
  ·rename_i b2 h2
   exact bind1_cl c1 e2.1 e2.2 h2
theorem wth_tr {iv : Int} {b h : List Int} {x : NtT} {n : Nat} (hn : n ≤ 8) (g : NtG n x) (ht : Tr h b) (hx : NtTr iv h x) : (wthB iv b x 0).2 = true ∧ Tr h (wthB iv b x 0).1 := by
 have ha := g.a
 have hb := g.b
 have hk := g.k
 have h8 : hS h 8 = 0 := by unfold hS; rw [if_neg (by omega)]
 have e1 : (bnd1 iv x 0).1 < 9 ∧ (bnd1 iv x 0).2.1 < 9 ∧ hS h (bnd1 iv x 0).2.1 - hS h (bnd1 iv x 0).1 ≤ (bnd1 iv x 0).2.2 := by
  unfold bnd1
  split
  ·rename_i h1; have := hx.1 h1; dsimp only; omega
  ·split
   ·rename_i h1; have := hx.2.1 h1; dsimp only; omega
   ·have := hx.2.2 (by omega); dsimp only; omega
 have e2 : (bnd2 iv x 0).1 < 9 ∧ (bnd2 iv x 0).2.1 < 9 ∧ hS h (bnd2 iv x 0).2.1 - hS h (bnd2 iv x 0).1 ≤ (bnd2 iv x 0).2.2 := by
  unfold bnd2
  split
  ·rename_i h1; have := hx.1 h1; dsimp only; omega
  ·split
   ·rename_i h1; have := hx.2.1 h1; dsimp only; omega
   ·have := hx.2.2 (by omega); dsimp only; omega
 obtain ⟨b1, h1, t1⟩ := bind1_tr ht e1.1 e1.2.1 e1.2.2
 obtain ⟨b2, h2, t2⟩ := bind1_tr t1 e2.1 e2.2.1 e2.2.2
 unfold wthB
 rw [h1]
 dsimp only
 rw [h2]
 exact ⟨rfl, t2⟩
theorem all_cl {iv w : Int} {ns : List NtT} {n : Nat} (hn : n ≤ 8) (g : ∀ i, i < ns.length → NtG n (ns.getD i default)) : ∀ k, k ≤ ns.length → Cl (allB iv ns w k).1
 | 0, _ => fre_cl
 | k + 1, hk => by
  have ih := all_cl (iv := iv) (w := w) hn g k (by omega)
  unfold allB
  split
  ·exact wth_cl hn (g k (by omega)) ih
  ·exact ih
theorem all_tr {iv : Int} {ns : List NtT} {n : Nat} {h : List Int} (hn : n ≤ 8) (hb : ∀ x ∈ h, 0 ≤ x ∧ x ≤ 9000) (g : ∀ i, i < ns.length → NtG n (ns.getD i default)) (ht : ∀ i, i < ns.length → NtTr iv h (ns.getD i default)) : ∀ k, k ≤ ns.length → (allB iv ns 0 k).2 = true ∧ Tr h (allB iv ns 0 k).1
 | 0, _ => ⟨rfl, fre_tr hb⟩
 | k + 1, hk => by
  have ih := all_tr hn hb g ht k (by omega)
  unfold allB
  rw [if_pos ih.1]
  exact wth_tr hn (g k (by omega)) ih.2 (ht k (by omega))
def hgtL (b : List Int) (n : Nat) : List (Int × Int) := (List.range n).map fun i => (-(bat b i 8), bat b 8 i)
theorem hgt_in {b h : List Int} {n i : Nat} (hn : n ≤ 8) (c : Cl b) (ht : Tr h b) (hi : i < n) : 0 ≤ ((hgtL b n).getD i default).1 ∧ ((hgtL b n).getD i default).1 ≤ hS h i ∧ hS h i ≤ ((hgtL b n).getD i default).2 ∧ ((hgtL b n).getD i default).2 ≤ 9000 := by
 have e : (hgtL b n).getD i default = (-(bat b i 8), bat b 8 i) := by
  unfold hgtL
  rw [List.getD_eq_getElem?_getD, List.getElem?_map, List.getElem?_range hi]; rfl
 rw [e]
 have h1 := ht i 8 (by omega) (by omega)
 have h2 := ht 8 i (by omega) (by omega)
 have h3 := c.u i 8 (by omega) (by omega)
 have h4 := c.lo (i := 8) (k := i) (by omega) (by omega)
 have h8 : hS h 8 = 0 := by unfold hS; rw [if_neg (by omega)]
 unfold frE at h3
 rw [if_neg (by omega)] at h3
 dsimp only
 omega
end Go.Proofs.YtnhhfkgldoeifaaGreatDoor.Sh
end
section
namespace Go.Proofs.YtnhhfkgldoeifaaGreatDoor.Sh
open Go
def trn (l : List Int) (k : Nat) : Int := if l.length = 0 then 0 else l.getD (k % l.length) default
theorem trn_bd {l : List Int} (h : ∀ x ∈ l, 0 ≤ x ∧ x ≤ 65535) (k : Nat) : 0 ≤ trn l k ∧ trn l k ≤ 65535 := by
 unfold trn
 split
 ·omega
 ·rename_i h0
  exact h _ (K.gt_mem (Nat.mod_lt _ (by omega)))
def truN (l : List Int) (n : Nat) : List Int := (List.range n).map fun i => trn l i % 9001
theorem tru_s {l : List Int} {n : Nat} : truN l (n + 1) = truN l n ++ [trn l n % 9001] := by unfold truN; rw [List.range_succ, List.map_append]; rfl
theorem tru_len {l : List Int} {n : Nat} : (truN l n).length = n := by unfold truN; simp
theorem tru_bd {l : List Int} {n : Nat} : ∀ x ∈ truN l n, 0 ≤ x ∧ x ≤ 9000 := fun x hx => by
 unfold truN at hx
 obtain ⟨i, _, rfl⟩ := List.mem_map.1 hx
 have h1 := Int.emod_nonneg (trn l i) (show (9001 : Int) ≠ 0 by decide)
 have h2 := Int.emod_lt_of_pos (trn l i) (show (0 : Int) < 9001 by decide)
 omega
def less (off : List Int) (i : Nat) : Int := trn off (2 * i) % 50
def more (off : List Int) (i : Nat) : Int := trn off (2 * i + 1) % 50
theorem fifty {off : List Int} {i : Nat} : (0 ≤ less off i ∧ less off i < 50) ∧ (0 ≤ more off i ∧ more off i < 50) := by
 have h1 := Int.emod_nonneg (trn off (2 * i)) (show (50 : Int) ≠ 0 by decide)
 have h2 := Int.emod_lt_of_pos (trn off (2 * i)) (show (0 : Int) < 50 by decide)
 have h3 := Int.emod_nonneg (trn off (2 * i + 1)) (show (50 : Int) ≠ 0 by decide)
 have h4 := Int.emod_lt_of_pos (trn off (2 * i + 1)) (show (0 : Int) < 50 by decide)
 exact ⟨⟨h1, h2⟩, ⟨h3, h4⟩⟩
def hA (h : List Int) (a : Int) : Int := h.getD a.toNat default
def newX (iv : Int) (h off : List Int) (i : Nat) (x : NtT) : NtT :=
 if x.kd = 1 then { x with lo := max 0 (hA h x.a - less off i), hi := min 9000 (hA h x.a + more off i) }
 else if x.kd = 2 then { x with lo := hA h x.a / iv, hi := hA h x.a / iv + 1 }
 else if x.kd = 4 then { x with lo := max (-9000) (hA h x.a - hA h x.b - less off i), hi := min 9000 (hA h x.a - hA h x.b + more off i) }
 else x
def tldB (iv : Int) (h off : List Int) (n i : Nat) (x : NtT) : Bool :=
 decide ((0 ≤ x.a ∧ x.a < (h.length : Int)) ∧ (0 ≤ x.b ∧ x.b < (h.length : Int))) && decide (x.kd = 3 → hA h x.a = hA h x.b) && decide (ntE iv n (newX iv h off i x) = 0)
def tldK (iv : Int) (ns : List NtT) (h off : List Int) (n : Nat) : Nat → List NtT
 | 0 => []
 | k + 1 => if tldB iv h off n k (ns.getD k default) then tldK iv ns h off n k ++ [newX iv h off k (ns.getD k default)] else tldK iv ns h off n k
theorem tld_y {iv : Int} {ns : List NtT} {h off : List Int} {n k : Nat} (hb : tldB iv h off n k (ns.getD k default) = true) : tldK iv ns h off n (k + 1) = tldK iv ns h off n k ++ [newX iv h off k (ns.getD k default)] := by
 conv => lhs; unfold tldK
 rw [if_pos hb]
theorem tld_n {iv : Int} {ns : List NtT} {h off : List Int} {n k : Nat} (hb : tldB iv h off n k (ns.getD k default) = false) : tldK iv ns h off n (k + 1) = tldK iv ns h off n k := by
 conv => lhs; unfold tldK
 rw [if_neg (by rw [hb]; decide)]
theorem tld_len {iv : Int} {ns : List NtT} {h off : List Int} {n : Nat} : ∀ k, (tldK iv ns h off n k).length ≤ k
 | 0 => Nat.le_refl _
 | k + 1 => by
  have ih := tld_len (iv := iv) (ns := ns) (h := h) (off := off) (n := n) k
  unfold tldK
  split
  ·rw [List.length_append]; show _ + 1 ≤ k + 1; omega
  ·omega
theorem rng_0 {lo hi l h : Int} (e : rngE lo hi l h = 0) : ((l ≤ lo ∧ lo ≤ h) ∧ (l ≤ hi ∧ hi ≤ h)) ∧ lo ≤ hi := by
 unfold rngE at e
 split at e
 ·simp at e
 ·split at e
  ·simp at e
  ·rename_i h1 h2
   exact ⟨Decidable.not_not.1 h1, by omega⟩
theorem nt_good {iv : Int} {n : Nat} {x : NtT} (e : ntE iv n x = 0) : NtG n x ∧ (x.kd = 3 → x.lo = 0 ∧ x.hi = 0) := by
 unfold ntE at e
 split at e
 ·simp at e
 ·rename_i h1
  split at e
  ·simp at e
  ·rename_i h2
   have h1 := Decidable.not_not.1 h1
   have h2 := Decidable.not_not.1 h2
   refine ⟨⟨h1, h2.1, h2.2⟩, fun h3 => ?_⟩
   split at e
   ·simp at e
   ·rw [if_neg (by omega), if_neg (by omega)] at e
    try rw [if_pos h3] at e
    have := rng_0 e
    omega
theorem new_kd {iv : Int} {h off : List Int} {i : Nat} {x : NtT} : (newX iv h off i x).kd = x.kd ∧ (newX iv h off i x).a = x.a ∧ (newX iv h off i x).b = x.b := by
 unfold newX
 repeat' split
 all_goals exact ⟨rfl, rfl, rfl⟩
theorem hA_S {h : List Int} {a : Int} (hn : h.length ≤ 8) (h0 : 0 ≤ a ∧ a < (h.length : Int)) : hS h a.toNat = hA h a := by
 unfold hS hA
 rw [if_pos (by omega)]; rfl
theorem tld_true {iv : Int} {h off : List Int} {n i : Nat} {x : NtT} (hiv : 1 ≤ iv) (hn : h.length ≤ 8) (hb : ∀ x ∈ h, 0 ≤ x ∧ x ≤ 9000) (hx : tldB iv h off n i x = true) : NtG n (newX iv h off i x) ∧ NtTr iv h (newX iv h off i x) ∧ ntE iv n (newX iv h off i x) = 0 := by
 unfold tldB at hx
 simp only [Bool.and_eq_true, decide_eq_true_eq] at hx
 obtain ⟨⟨⟨ha, hb2⟩, hl⟩, he⟩ := hx
 have hg := nt_good he
 have hk := new_kd (iv := iv) (h := h) (off := off) (i := i) (x := x)
 have hf := fifty (off := off) (i := i)
 have hva : 0 ≤ hA h x.a ∧ hA h x.a ≤ 9000 := hb _ (K.gt_mem (by omega))
 have hvb : 0 ≤ hA h x.b ∧ hA h x.b ≤ 9000 := hb _ (K.gt_mem (by omega))
 refine ⟨hg.1, ?_, he⟩
 unfold NtTr
 rw [hk.2.1, hk.2.2, hA_S hn ha, hA_S hn hb2, hk.1]
 refine ⟨fun h1 => ?_, fun h1 => ?_, fun h1 => ?_⟩
 ·unfold newX; rw [if_pos h1]; dsimp only; omega
 ·unfold newX; rw [if_neg (by omega), if_pos h1]
  dsimp only
  have e1 := Int.mul_ediv_add_emod (hA h x.a) iv
  have e2 := Int.emod_nonneg (hA h x.a) (show iv ≠ 0 by omega)
  have e3 := Int.emod_lt_of_pos (hA h x.a) (show 0 < iv by omega)
  rw [Int.add_mul, Int.one_mul, Int.mul_comm (hA h x.a / iv) iv]
  omega
 ·rcases h1 with h1 | h1
  ·have h3 := hg.2 (by rw [hk.1]; exact h1)
   have h4 := hl h1
   rw [h3.1, h3.2]; omega
  ·unfold newX; rw [if_neg (by omega), if_neg (by omega), if_pos h1]; dsimp only; omega
theorem gd_snoc {E : Type} [Inhabited E] {l : List E} {x : E} {i : Nat} (h : i < l.length + 1) : (l ++ [x]).getD i default = if i < l.length then l.getD i default else x := by
 rw [List.getD_eq_getElem?_getD, List.getElem?_append]
 by_cases h1 : i < l.length
 ·rw [if_pos h1, if_pos h1, ← List.getD_eq_getElem?_getD]
 ·rw [if_neg h1, if_neg h1, show i - l.length = 0 by omega]; rfl
theorem tld_all {iv : Int} {ns : List NtT} {h off : List Int} {n : Nat} (hiv : 1 ≤ iv) (hn : h.length ≤ 8) (hb : ∀ x ∈ h, 0 ≤ x ∧ x ≤ 9000) : ∀ k, ∀ i, i < (tldK iv ns h off n k).length → NtG n ((tldK iv ns h off n k).getD i default) ∧ NtTr iv h ((tldK iv ns h off n k).getD i default) ∧ ntE iv n ((tldK iv ns h off n k).getD i default) = 0
 | 0, i, hi => by simp [tldK] at hi
 | k + 1, i, hi => by
  have ih := tld_all (ns := ns) (off := off) (n := n) hiv hn hb k
  cases hx : tldB iv h off n k (ns.getD k default) with
  | false => rw [tld_n hx] at hi ⊢; exact ih i hi
  | true =>
   rw [tld_y hx] at hi ⊢
   rw [List.length_append] at hi
   rw [gd_snoc hi]
   split
   ·rename_i h1; exact ih i h1
   ·exact tld_true hiv hn hb hx
theorem told_in {iv : Int} {ns : List NtT} {h off : List Int} {n k i : Nat} (hiv : 1 ≤ iv) (hl : h.length = n) (hn : n ≤ 8) (hb : ∀ x ∈ h, 0 ≤ x ∧ x ≤ 9000) (hi : i < n) :
  (allB iv (tldK iv ns h off n k) 0 (tldK iv ns h off n k).length).2 = true ∧ 0 ≤ ((hgtL (allB iv (tldK iv ns h off n k) 0 (tldK iv ns h off n k).length).1 n).getD i default).1 ∧
  ((hgtL (allB iv (tldK iv ns h off n k) 0 (tldK iv ns h off n k).length).1 n).getD i default).1 ≤ h.getD i default ∧ h.getD i default ≤ ((hgtL (allB iv (tldK iv ns h off n k) 0 (tldK iv ns h off n k).length).1 n).getD i default).2 ∧
  ((hgtL (allB iv (tldK iv ns h off n k) 0 (tldK iv ns h off n k).length).1 n).getD i default).2 ≤ 9000 := by
 have ha := tld_all (ns := ns) (off := off) (n := n) hiv (by omega) hb k
 have h1 := all_tr (iv := iv) hn hb (fun i hi => (ha i hi).1) (fun i hi => (ha i hi).2.1) _ (Nat.le_refl _)
 have h2 := all_cl (iv := iv) (w := 0) hn (fun i hi => (ha i hi).1) _ (Nat.le_refl _)
 have h3 := hgt_in hn h2 h1.2 hi
 have e : hS h i = h.getD i default := by unfold hS; rw [if_pos (by omega)]; rfl
 rw [e] at h3
 exact ⟨h1.1, h3⟩
end Go.Proofs.YtnhhfkgldoeifaaGreatDoor.Sh
end
section
namespace Go.Proofs.YtnhhfkgldoeifaaGreatDoor.Sh
open Go
def trS (lf : Bool) (iv : Int) (ns : List NtT) : Nat → Nat → List Int → Bool → List Int → Bool × List Int → Bool × List Int
 | 0, i, _, bad, ls, fb =>
  if (fb.1 && decide (fb.2.length ≤ ls.length)) || (lf && bad) then fb else if bad || (lf && decide (i = ns.length)) then (true, ls) else fb
 | f + 1, i, b, bad, ls, fb =>
  if (fb.1 && decide (fb.2.length ≤ ls.length)) || (lf && bad) then fb
  else if bad || (lf && decide (i = ns.length)) then (true, ls)
  else
   let w := wthB iv b (ns.getD i default) 0
   let fb1 := if lf then trS lf iv ns f (i + 1) b false (ls ++ [(i : Int)]) fb else trS lf iv ns f (i + 1) w.1 (!w.2) (ls ++ [(i : Int)]) fb
   if lf then trS lf iv ns f (i + 1) w.1 (!w.2) ls fb1 else trS lf iv ns f (i + 1) b false ls fb1
def srcS (lf : Bool) (iv : Int) (ns : List NtT) : List Int := (trS lf iv ns ns.length 0 freB false [] (false, [])).2
def widF (iv : Int) (ns : List NtT) : Nat → Int → Int → Int
 | 0, _, hi => hi
 | f + 1, lo, hi => if hi - lo > 1 then (if (allB iv ns ((lo + hi) / 2) ns.length).2 then widF iv ns f lo ((lo + hi) / 2) else widF iv ns f ((lo + hi) / 2) hi) else hi
def ntsS : List NtT := [⟨1, 0, 0, 1180, 1200⟩, ⟨2, 1, 0, 9, 10⟩, ⟨3, 3, 1, 0, 0⟩, ⟨4, 0, 2, 250, 300⟩]
def ntsT : List NtT := ntsS ++ [⟨4, 1, 2, -40, -10⟩]
def ntsB : List NtT := ntsS ++ [⟨4, 1, 0, 0, 10⟩]
theorem ex_fit : (allB 100 ntsS 0 4).2 = true ∧ (allB 100 ntsB 0 5).2 = false ∧ (allB 100 ntsT 0 5).2 = true := by decide +kernel
theorem ex_hgt : hgtL (allB 100 ntsT 0 5).1 4 = [(1180, 1200), (900, 940), (910, 950), (900, 940)] := by decide +kernel
theorem ex_apart : -(bat (allB 100 ntsT 0 5).1 2 1) = 10 ∧ bat (allB 100 ntsT 0 5).1 1 2 = 40 := by decide +kernel
theorem ex_proof : srcS false 100 ntsB = [0, 1, 4] := by decide +kernel
theorem ex_wrong : srcS true 100 ntsB = [0] := by decide +kernel
theorem ex_wide : widF 100 ntsB 14 (-1) 9000 = 60 := by decide +kernel
end Go.Proofs.YtnhhfkgldoeifaaGreatDoor.Sh
end
section
namespace Go.Proofs.YtnhhfkgldoeifaaGreatDoor.Sh
open Go
def fshE (pts : List ByteArray) (i : Nat) : Int := Pn.freshE (pts.getD i default) (pts.take i)
def chkS (iv : Int) (pts : List ByteArray) (nts : List NtT) : Int × Int × Int :=
 if ¬ (1 ≤ iv ∧ iv ≤ 1000) then (1, 0, 7) else if ¬ (1 ≤ pts.length ∧ pts.length ≤ 8) then (2, 0, 3)
 else if (K.fst (fshE pts) (List.range pts.length)).2 ≠ 0 then (2, K.fst (fshE pts) (List.range pts.length))
 else if nts.length > 12 then (3, 0, 3)
 else if (K.fst (ntE iv pts.length) nts).2 ≠ 0 then (3, K.fst (ntE iv pts.length) nts) else (0, 0, 0)
structure GoodS (iv : Int) (pts : List ByteArray) (nts : List NtT) : Prop where
 i : 1 ≤ iv ∧ iv ≤ 1000
 n : 1 ≤ pts.length ∧ pts.length ≤ 8
 f : ∀ j, j < pts.length → fshE pts j = 0
 l : nts.length ≤ 12
 t : ∀ j, j < nts.length → ntE iv pts.length (nts.getD j default) = 0
theorem fst_z {E : Type} [Inhabited E] {q : E → Int} {xs : List E} : (K.fst q xs).2 = 0 ↔ ∀ j, j < xs.length → q (xs.getD j default) = 0 := by
 constructor
 ·intro h j
  induction j using Nat.strongRecOn with
  | ind j ih =>
   intro hj
   rcases Classical.em (q (xs.getD j default) = 0) with h0 | h0
   ·exact h0
   ·rw [K.fst_found hj (fun i hi => ih i hi (by omega)) h0] at h
    exact h
 ·intro h
  rw [K.fst_none h]
theorem rng_at {n k : Nat} (h : k < n) : (List.range n).getD k default = k := by
 rw [List.getD_eq_getElem?_getD, List.getElem?_range h]; rfl
section
variable {iv : Int} {pts : List ByteArray} {nts : List NtT}
theorem cs_1 (h : ¬ (1 ≤ iv ∧ iv ≤ 1000)) : chkS iv pts nts = (1, 0, 7) := by unfold chkS; rw [if_pos h]
theorem cs_2 (h1 : 1 ≤ iv ∧ iv ≤ 1000) (h : ¬ (1 ≤ pts.length ∧ pts.length ≤ 8)) : chkS iv pts nts = (2, 0, 3) := by unfold chkS; rw [if_neg (fun h2 => h2 h1), if_pos h]
theorem cs_3 (h1 : 1 ≤ iv ∧ iv ≤ 1000) (h2 : 1 ≤ pts.length ∧ pts.length ≤ 8) {k : Nat} (hk : k < pts.length) (h0 : ∀ j, j < k → fshE pts j = 0) (h : fshE pts k ≠ 0) : chkS iv pts nts = (2, (k : Int), fshE pts k) := by
 unfold chkS
 have f := K.fst_found (q := fshE pts) (xs := List.range pts.length) (k := k) (by rw [List.length_range]; exact hk) (fun j hj => by rw [rng_at (by omega)]; exact h0 j hj) (by rw [rng_at hk]; exact h)
 rw [rng_at hk] at f
 rw [if_neg (fun h3 => h3 h1), if_neg (fun h3 => h3 h2), f, if_pos h]
theorem frs_0 (h0 : ∀ j, j < pts.length → fshE pts j = 0) : (K.fst (fshE pts) (List.range pts.length)).2 = 0 := by
 rw [K.fst_none (fun j hj => by rw [List.length_range] at hj; rw [rng_at hj]; exact h0 j hj)]
theorem cs_4 (h1 : 1 ≤ iv ∧ iv ≤ 1000) (h2 : 1 ≤ pts.length ∧ pts.length ≤ 8) (h0 : ∀ j, j < pts.length → fshE pts j = 0) (h : nts.length > 12) : chkS iv pts nts = (3, 0, 3) := by
 unfold chkS
 rw [if_neg (fun h3 => h3 h1), if_neg (fun h3 => h3 h2), if_neg (fun h3 => h3 (frs_0 h0)), if_pos h]
theorem cs_5 (h1 : 1 ≤ iv ∧ iv ≤ 1000) (h2 : 1 ≤ pts.length ∧ pts.length ≤ 8) (h0 : ∀ j, j < pts.length → fshE pts j = 0) (h3 : ¬ nts.length > 12) {k : Nat} (hk : k < nts.length) (h4 : ∀ j, j < k → ntE iv pts.length (nts.getD j default) = 0) (h : ntE iv pts.length (nts.getD k default) ≠ 0) : chkS iv pts nts = (3, (k : Int), ntE iv pts.length (nts.getD k default)) := by
 unfold chkS
 rw [if_neg (fun h3 => h3 h1), if_neg (fun h3 => h3 h2), if_neg (fun h3 => h3 (frs_0 h0)), if_neg h3, K.fst_found hk h4 h, if_pos h]
theorem cs_0 (h1 : 1 ≤ iv ∧ iv ≤ 1000) (h2 : 1 ≤ pts.length ∧ pts.length ≤ 8) (h0 : ∀ j, j < pts.length → fshE pts j = 0) (h3 : ¬ nts.length > 12) (h4 : ∀ j, j < nts.length → ntE iv pts.length (nts.getD j default) = 0) : chkS iv pts nts = (0, 0, 0) := by
 unfold chkS
 rw [if_neg (fun h3 => h3 h1), if_neg (fun h3 => h3 h2), if_neg (fun h3 => h3 (frs_0 h0)), if_neg h3, K.fst_none h4]; rfl
theorem chkS_good (h : (chkS iv pts nts).2.2 = 0) : GoodS iv pts nts := by
 unfold chkS at h
 split at h
 ·simp at h
 ·rename_i h1
  split at h
  ·simp at h
  ·rename_i h2
   split at h
   ·rename_i h3; exact absurd h h3
   ·rename_i h3
    split at h
    ·simp at h
    ·rename_i h4
     split at h
     ·rename_i h5; exact absurd h h5
     ·rename_i h5
      refine ⟨Decidable.not_not.1 h1, Decidable.not_not.1 h2, fun j hj => ?_, by omega, fun j hj => fst_z.1 (Decidable.not_not.1 h5) j hj⟩
      have := fst_z.1 (Decidable.not_not.1 h3) j (by rw [List.length_range]; exact hj)
      rwa [rng_at hj] at this
theorem chkS_one (g : GoodS iv pts nts) {x : NtT} : (chkS iv pts [x]).2.2 = ntE iv pts.length x := by
 by_cases h : ntE iv pts.length x = 0
 ·rw [cs_0 g.i g.n g.f (by simp) (fun j hj => by
   have : j = 0 := by simpa using hj
   subst this; exact h), h]
 ·rw [cs_5 (nts := [x]) g.i g.n g.f (by simp) (k := 0) (by simp) (fun j hj => absurd hj (Nat.not_lt_zero j)) h]; rfl
theorem told_good {h off : List Int} (g : GoodS iv pts nts) (hl : h.length = pts.length) (hb : ∀ x ∈ h, 0 ≤ x ∧ x ≤ 9000) : GoodS iv pts (tldK iv nts h off pts.length nts.length) := by
 have hn := g.n
 have h1 := tld_len (iv := iv) (ns := nts) (h := h) (off := off) (n := pts.length) nts.length
 have h2 := tld_all (ns := nts) (off := off) (n := pts.length) g.i.1 (by omega) hb nts.length
 exact ⟨g.i, hn, g.f, by have := g.l; omega, fun j hj => (h2 j hj).2.2⟩
variable {n : Nat} {x : NtT}
theorem ne_6 (h : ¬ (1 ≤ x.kd ∧ x.kd ≤ 4)) : ntE iv n x = 6 := by unfold ntE; rw [if_pos h]
theorem ne_4 (h1 : 1 ≤ x.kd ∧ x.kd ≤ 4) (h : ¬ ((0 ≤ x.a ∧ x.a ≤ (n : Int) - 1) ∧ (0 ≤ x.b ∧ x.b ≤ (n : Int) - 1))) : ntE iv n x = 4 := by unfold ntE; rw [if_neg (fun h2 => h2 h1), if_pos h]
theorem ne_2 (h1 : 1 ≤ x.kd ∧ x.kd ≤ 4) (h2 : (0 ≤ x.a ∧ x.a ≤ (n : Int) - 1) ∧ (0 ≤ x.b ∧ x.b ≤ (n : Int) - 1)) (h : ((x.kd = 3 ∨ x.kd = 4) ∧ x.a = x.b) ∨ (¬ (x.kd = 3 ∨ x.kd = 4) ∧ x.b ≠ 0)) : ntE iv n x = 2 := by
 unfold ntE; rw [if_neg (fun h3 => h3 h1), if_neg (fun h3 => h3 h2), if_pos h]
theorem ne_s (h1 : 1 ≤ x.kd ∧ x.kd ≤ 4) (h2 : (0 ≤ x.a ∧ x.a ≤ (n : Int) - 1) ∧ (0 ≤ x.b ∧ x.b ≤ (n : Int) - 1)) (h : ¬ (((x.kd = 3 ∨ x.kd = 4) ∧ x.a = x.b) ∨ (¬ (x.kd = 3 ∨ x.kd = 4) ∧ x.b ≠ 0))) :
  ntE iv n x = if x.kd = 1 then rngE x.lo x.hi 0 9000 else if x.kd = 4 then rngE x.lo x.hi (-9000) 9000 else if x.kd = 3 then rngE x.lo x.hi 0 0 else if rngE x.lo x.hi 0 (9000 / iv) = 0 ∧ x.lo = x.hi then 2 else rngE x.lo x.hi 0 (9000 / iv) := by
 unfold ntE; rw [if_neg (fun h3 => h3 h1), if_neg (fun h3 => h3 h2), if_neg h]
end
end Go.Proofs.YtnhhfkgldoeifaaGreatDoor.Sh
end
section
namespace Go.Proofs.YtnhhfkgldoeifaaGreatDoor.Sh
open Go
theorem zY {A B : Prop} (k : A) (e : B = A := by first | (dsimp only [K.setd, K.setn, K.ev, K.nth, K.over, K.cl, K.eI, K.eP, K.eT, eO, eG, K.setM, K.setF, List.map, List.append, List.drop, List.take] <;> rfl) | rfl) : B := e ▸ k
theorem zR {A B : Prop} (k : A) (e : B = A := by first | (dsimp only [List.replicate, List.cons_append, List.nil_append] <;> rfl) | rfl) : B := e ▸ k
theorem zN {A B : Prop} (k : A) (e : B = A := by first | (dsimp only [K.setd, K.setn, K.ev, K.nth, K.over, K.cl, K.eI, K.eP, K.eT, eO, eG, List.map, List.append, List.drop, List.take] <;> rfl) | rfl) : B := e ▸ k
theorem zn {A B : Prop} (k : A) (e : B = A := by dsimp only [K.setd, K.setn, K.ev, K.nth] <;> rfl) : B := e ▸ k
section
open Go.RowKit
variable {P : Program} {w0 : World} {L L' : List K.Chunk} {Q : Exit → Act → World → Prop} {l : List Value} {ops : Array Oper} {rest : List Oper} {o : Oper} {v : Value} {d : Option Tmp} {ty : TypeId} {ps : String} {af : Array Edge} {g : Option (Nat × Bool)} {A : Prop} {x : Operand} {id i : Nat}
theorem qp (h : K.Pure P o l v) (k : A) (hg : K.wantL ops.toList l o.guard = true := by exact rfl) (e : K.Hold w0 L (wpList P ops Q rest (K.fr (K.setd l o.dst v))) = A := by dsimp only [K.setd, K.setn, K.ev, K.nth] <;> rfl) : K.Hold w0 L (wpList P ops Q (o :: rest) (K.fr l)) := K.mA h hg (e ▸ k)
theorem qm (k : A) (hg : K.wantL ops.toList l g = true := by exact rfl) (e : K.Hold w0 L (wpList P ops Q rest (K.fr (K.setd l d (K.ev l x)))) = A := by dsimp only [K.setd, K.setn, K.ev, K.nth] <;> rfl) : K.Hold w0 L (wpList P ops Q (⟨d, .move x, ty, ps, af, g⟩ :: rest) (K.fr l)) := K.mA K.move hg (e ▸ k)
theorem qa (k : A) (hg : K.wantL ops.toList l g = true := by exact rfl) (e : K.Hold w0 L (wpList P ops Q rest (K.fr (K.setd l d (K.ev l x)))) = A := by dsimp only [K.setd, K.setn, K.ev, K.nth] <;> rfl) : K.Hold w0 L (wpList P ops Q (⟨d, .assign x, ty, ps, af, g⟩ :: rest) (K.fr l)) := K.mA K.assign hg (e ▸ k)
theorem qx {vs : List Value} (k : A) (hx : K.ev l x = .tuple vs.toArray := by exact rfl) (hi : Nat.blt i vs.length = true := by exact rfl) (hg : K.wantL ops.toList l g = true := by exact rfl) (e : K.Hold w0 L (wpList P ops Q rest (K.fr (K.setd l d (K.nth vs i)))) = A := by dsimp only [K.setd, K.setn, K.ev, K.nth] <;> rfl) : K.Hold w0 L (wpList P ops Q (⟨d, .extract x i, ty, ps, af, g⟩ :: rest) (K.fr l)) := K.mA (K.extract hx hi) hg (e ▸ k)
theorem qs (k : A) (hg : K.wantL ops.toList l o.guard = false := by exact rfl) (e : K.Hold w0 L (wpList P ops Q rest (K.fr (K.setd l o.dst undef))) = A := by dsimp only [K.setd, K.setn, K.ev, K.nth] <;> rfl) : K.Hold w0 L (wpList P ops Q (o :: rest) (K.fr l)) := K.seq_skip hg (e ▸ k)
theorem sn {J : Act → World → Prop} (k : K.Hold w0 L (J (K.fr l))) : K.Hold w0 L (wpList P ops (Exit.then J Q) [] (K.fr l)) := K.lA (K.dA k)
theorem sr {lo : List Oper} {y : Code} (k : K.Hold w0 L (wpList P lo.toArray (Exit.then (y.wp P Q) Q) lo (K.fr l))) : K.Hold w0 L ((Code.seq (Code.region id lo.toArray false) y).wp P Q (K.fr l)) := K.seq (K.gA k)
theorem gI {iv : Int} {n : Nat} {x : NtT} {a : Int} {v : Value} (hv : v = .int .i64 a) (h : a = ntE iv n x := by
 first
 | rw [ne_s (by omega) (by omega) (by omega), if_pos (by omega)]
 | rw [ne_s (by omega) (by omega) (by omega), if_neg (by omega), if_pos (by omega)]
 | rw [ne_s (by omega) (by omega) (by omega), if_neg (by omega), if_neg (by omega), if_pos (by omega)]
 | rw [ne_s (by omega) (by omega) (by omega), if_neg (by omega), if_neg (by omega), if_neg (by omega), if_pos ⟨by first | assumption | omega, by omega⟩]
 | rw [ne_s (by omega) (by omega) (by omega), if_neg (by omega), if_neg (by omega), if_neg (by omega), if_neg (fun h => by have h3 := h.1; have h4 := h.2; first | exact absurd h3 (by assumption) | omega)]) : K.Hold w0 L (K.Gives (.int .i64 (ntE iv n x)) w0 (.returned v)) := K.xA hv h
theorem et {R : Ending → World → Prop} {fn : Func} (k : K.Hold w0 L (R (.returned v))) (hr : ∀ w, K.St w0 L w → (results fn l.toArray).run P w = .ok v w := by exact fun w _ => K.res_tmp rfl w) : K.Hold w0 L (bodyPost P fn R .ret (K.fr l)) := K.wA hr k
theorem ql (h : K.Sil P w0 L o l v) (k : A) (hg : K.wantL ops.toList l o.guard = true := by exact rfl) (e : K.Hold w0 L (wpList P ops Q rest (K.fr (K.setd l o.dst v))) = A := by first | (dsimp only [K.setd, K.setn, K.ev, K.nth, K.over, K.cl, K.eI, K.eP, K.eT, eO, eG, List.map, List.append, List.drop, List.take] <;> rfl) | rfl) : K.Hold w0 L (wpList P ops Q (o :: rest) (K.fr l)) := K.seq_sil h hg (e ▸ k)
theorem qc (h : K.Loud P w0 L o l (fun _ : Unit => True) (fun _ => v) (fun _ => [])) (k : A) (hg : K.wantL ops.toList l o.guard = true := by exact rfl) (e : K.Hold w0 L (wpList P ops Q rest (K.fr (K.setd l o.dst v))) = A := by first | (dsimp only [K.setd, K.setn, K.ev, K.nth, K.over, K.cl, K.eI, K.eP, K.eT, eO, eG, List.map, List.append, List.drop, List.take] <;> rfl) | rfl) : K.Hold w0 L (wpList P ops Q (o :: rest) (K.fr l)) := K.seq_call h hg (e ▸ k)
theorem qt (h : K.Upd P w0 L o l (fun _ : Unit => True) (fun _ => undef) (fun _ => L')) (k : A) (hg : K.wantL ops.toList l o.guard = true := by exact rfl) (e : K.Hold w0 L' (wpList P ops Q rest (K.fr (K.setd l o.dst undef))) = A := by first | (dsimp only [K.setd, K.setn, K.ev, K.nth, K.over, K.cl, K.eI, K.eP, K.eT, eO, eG, List.map, List.append, List.drop, List.take] <;> rfl) | rfl) : K.Hold w0 L (wpList P ops Q (o :: rest) (K.fr l)) := K.seq_st h hg (e ▸ k)
theorem qn {val : Nat → Value} {D : Nat → List K.Chunk} {A : Nat → Prop} (h : K.Loud P w0 L o l (fun _ : Nat => True) val D) (k : ∀ b, A b) (hg : K.wantL ops.toList l o.guard = true := by exact rfl) (e : ∀ b, K.Hold w0 (D b ++ L) (wpList P ops Q rest (K.fr (K.setd l o.dst (val b)))) = A b := by intro b; first | (dsimp only [K.setd, K.setn, K.ev, K.nth, K.over, K.cl, K.eI, K.eP, K.eT, eO, eG, List.map, List.append, List.drop, List.take] <;> rfl) | rfl) : K.Hold w0 L (wpList P ops Q (o :: rest) (K.fr l)) := K.seq_new h hg fun b => e b ▸ k b
variable {C : List K.Chunk} {bl : List Nat} {fuel : Nat} {listed : Array Bool}
theorem dp (i : Nat) (ho : K.nthP ops.toList i = some o) (h : K.Pure P o l v) (k : A) (ht : K.takeB ops listed i = true := by kernel_rfl) (hg : K.wantL ops.toList l o.guard = true := by exact rfl) (e : K.DHold P w0 ops Q C bl fuel (listed.setIfInBounds i true) (K.setd l o.dst v) L = A := by first | (dsimp only [K.setd, K.setn, K.ev, K.nth] <;> rfl) | rfl) : K.DHold P w0 ops Q C bl (fuel + 1) listed l L := K.d_pure i ho h ht hg (e ▸ k)
theorem dm (i : Nat) (ho : K.nthP ops.toList i = some o) (h : K.Sil P w0 C o l v) (k : A) (hA : ∀ c ∈ C, c ∈ L := by exact fun _ h => h) (ht : K.takeB ops listed i = true := by kernel_rfl) (hb : K.waitB ops bl listed i = true := by kernel_rfl) (hg : K.wantL ops.toList l o.guard = true := by exact rfl) (e : K.DHold P w0 ops Q C bl fuel (listed.setIfInBounds i true) (K.setd l o.dst v) L = A := by first | (dsimp only [K.setd, K.setn, K.ev, K.nth, K.over, K.cl, K.eI, K.eP, K.eT, eO, eG, List.map, List.append, List.drop, List.take] <;> rfl) | rfl) : K.DHold P w0 ops Q C bl (fuel + 1) listed l L := K.aC i ho h hA ht hb hg (e ▸ k)
theorem dd (k : K.Hold w0 L (Q .normal (K.fr l))) (hr : Region.ready .any ops listed = [] := by kernel_rfl) : K.DHold P w0 ops Q C bl fuel listed l L := K.d_done hr k
end
end Go.Proofs.YtnhhfkgldoeifaaGreatDoor.Sh
end
