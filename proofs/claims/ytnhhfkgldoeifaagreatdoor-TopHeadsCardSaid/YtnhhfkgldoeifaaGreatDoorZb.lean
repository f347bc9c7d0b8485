/-
  Lemmas and walks of functions, joined and with only what the claim needs.
  Conditions stand in each theorem.
-/
import Derived.Test.YtnhhfkgldoeifaaGreatDoorProg
import Derived.Test.YtnhhfkgldoeifaaGreatDoorRows
import Derived.Below
import Derived.Laws.AppendOwn
import Derived.Laws.Rows
import Derived.Laws.Slices
import Derived.Tactics
import Derived.OrdersHeld
import Derived.KernelRfl
import Derived.WalkKit
import Derived.Deep.AppendLies
import Derived.IntWalk
import Derived.Scope
import Derived.WalkSpells
import Derived.DeepKeys
import Derived.Deep.Upon
import Derived.Laws.Small
import Derived.RangeFuncLeaves
import Derived.RangeFuncSeq
import Derived.OrdersIn
import Derived.Sort.LoopGhostIn
import Derived.TacticsIn
import Derived.RangeFuncOwn
import Derived.WideKeyMaps
import Derived.DeepKeys4
import Derived.Carry
import Derived.Laws.CopyRow
import Derived.WalkArith
import Derived.Laws.Closers25b
import Derived.ProofKit
import Derived.OpenShut
import Derived.LaidMore
import Derived.Lay
import Derived.Stop.Joined
import Derived.Lib.LaidTab
import Derived.Shelf.Strconv.Itoa3
import Derived.ChangeOld
import Derived.SizedLaws
import Derived.Deep.Slices
import Derived.Deep.Fields
import Derived.ChangeSame
import Derived.Lib.SmallJoins
import Derived.Laws.MakeOwn
import Derived.WideLaws
import Derived.Shelf.Small.Strs
import Derived.Shelf.Strings.OnBuilder
import Derived.Shelf.Strings.BuilderK
import Derived.Shelf.Strconv.Atoi
import Derived.Shelf.Strings.Prefix
import Derived.Shelf.Strings.Split
import Derived.Shelf.Strings.Search3
import Derived.Shelf.Slices.Turned
import Derived.Lib.FrozenHead
import Derived.Lib.OthersKept
import Derived.Laws.Concat
import Derived.Lib.AtoiErrMem
import Derived.Lib.ItoaNum
import Derived.Lib.Join
import Derived.RecoverIn
import Derived.Lib.IndexBytes
import Derived.Lib.Bytealg
import Derived.SevenTiedAt
import Derived.Test.YtnhhfkgldoeifaaGreatDoorZa
set_option linter.unusedSimpArgs false
set_option linter.unusedVariables false
section
namespace Go.Proofs.YtnhhfkgldoeifaaGreatDoor.Pn
open Go
def outB (lo hi : Int) (xs : List Int) : Bool := xs.any fun n => decide (n < lo) || decide (n > hi)
structure PinT where
 nm : ByteArray
 x : Int
 y : Int
 len : Int
 most : Int
instance : Inhabited PinT := ⟨⟨ByteArray.empty, 0, 0, 0, 0⟩⟩
structure StT where
 x : Int
 y : Int
 lo : Int
 hi : Int
instance : Inhabited StT := ⟨⟨0, 0, 0, 0⟩⟩
structure Mod where
 W : Int
 D : Int
 hs : List Int
 ps : List PinT
 ss : List StT
def eN (p : PinT) : List Value := [.string p.nm, .int .i64 p.x, .int .i64 p.y, .int .i64 p.len, .int .i64 p.most]
def eS (s : StT) : List Value := [.int .i64 s.x, .int .i64 s.y, .int .i64 s.lo, .int .i64 s.hi]
theorem zN {A B : Prop} (k : A) (e : B = A := by first | (dsimp only [K.setd, K.setn, K.ev, K.nth, K.over, K.cl, K.eI, K.eP, K.eT, eN, eS, List.map, List.append, List.drop, List.take] <;> rfl) | rfl) : B := e ▸ k
theorem zn {A B : Prop} (k : A) (e : B = A := by dsimp only [K.setd, K.setn, K.ev, K.nth] <;> rfl) : B := e ▸ k
section
open Go.RowKit
variable {P : Program} {w0 : World} {L : List K.Chunk} {Q : Exit → Act → World → Prop} {l : List Value} {ops : Array Oper} {rest : List Oper} {o : Oper} {v : Value} {d : Option Tmp} {ty : TypeId} {ps : String} {af : Array Edge} {g : Option (Nat × Bool)} {A : Prop} {x : Operand} {id i : Nat}
theorem qp (h : K.Pure P o l v) (k : A) (hg : K.wantL ops.toList l o.guard = true := by exact rfl) (e : K.Hold w0 L (wpList P ops Q rest (K.fr (K.setd l o.dst v))) = A := by dsimp only [K.setd, K.setn, K.ev, K.nth] <;> rfl) : K.Hold w0 L (wpList P ops Q (o :: rest) (K.fr l)) := K.mA h hg (e ▸ k)
theorem qm (k : A) (hg : K.wantL ops.toList l g = true := by exact rfl) (e : K.Hold w0 L (wpList P ops Q rest (K.fr (K.setd l d (K.ev l x)))) = A := by dsimp only [K.setd, K.setn, K.ev, K.nth] <;> rfl) : K.Hold w0 L (wpList P ops Q (⟨d, .move x, ty, ps, af, g⟩ :: rest) (K.fr l)) := K.mA K.move hg (e ▸ k)
theorem qa (k : A) (hg : K.wantL ops.toList l g = true := by exact rfl) (e : K.Hold w0 L (wpList P ops Q rest (K.fr (K.setd l d (K.ev l x)))) = A := by dsimp only [K.setd, K.setn, K.ev, K.nth] <;> rfl) : K.Hold w0 L (wpList P ops Q (⟨d, .assign x, ty, ps, af, g⟩ :: rest) (K.fr l)) := K.mA K.assign hg (e ▸ k)
theorem qx {vs : List Value} (k : A) (hx : K.ev l x = .tuple vs.toArray := by exact rfl) (hi : Nat.blt i vs.length = true := by exact rfl) (hg : K.wantL ops.toList l g = true := by exact rfl) (e : K.Hold w0 L (wpList P ops Q rest (K.fr (K.setd l d (K.nth vs i)))) = A := by dsimp only [K.setd, K.setn, K.ev, K.nth] <;> rfl) : K.Hold w0 L (wpList P ops Q (⟨d, .extract x i, ty, ps, af, g⟩ :: rest) (K.fr l)) := K.mA (K.extract hx hi) hg (e ▸ k)
theorem qs (k : A) (hg : K.wantL ops.toList l o.guard = false := by exact rfl) (e : K.Hold w0 L (wpList P ops Q rest (K.fr (K.setd l o.dst undef))) = A := by dsimp only [K.setd, K.setn, K.ev, K.nth] <;> rfl) : K.Hold w0 L (wpList P ops Q (o :: rest) (K.fr l)) := K.seq_skip hg (e ▸ k)
theorem sn {J : Act → World → Prop} (k : K.Hold w0 L (J (K.fr l))) : K.Hold w0 L (wpList P ops (Exit.then J Q) [] (K.fr l)) := K.lA (K.dA k)
theorem sr {lo : List Oper} {y : Code} (k : K.Hold w0 L (wpList P lo.toArray (Exit.then (y.wp P Q) Q) lo (K.fr l))) : K.Hold w0 L ((Code.seq (Code.region id lo.toArray false) y).wp P Q (K.fr l)) := K.seq (K.gA k)
end
def okC (i : Nat) (b : Int) : Bool := decide ((97 ≤ b ∧ b ≤ 122) ∨ (0 < i ∧ ((48 ≤ b ∧ b ≤ 57) ∨ b = 45)))
def nameB (s : ByteArray) : Bool := decide (1 ≤ s.size ∧ s.size ≤ 16) && (List.range s.size).all fun i => okC i (K.bt s i)
def nmEq (a b : ByteArray) : Bool := a.toList == b.toList
@[reducible] def onF (W D x y : Int) : Prop := (0 ≤ x ∧ x ≤ W - 1) ∧ (0 ≤ y ∧ y ≤ D - 1)
def lenE (p : PinT) : Int := if (0 ≤ p.len ∧ p.len ≤ 300) ∧ (0 ≤ p.most ∧ p.most ≤ 300) ∧ p.len ≤ p.most then 0 else 7
def atP (x y : Int) (q : PinT) : Bool := decide (q.x = x ∧ q.y = y)
def pinE (W D : Int) (ps : List PinT) (i : Nat) : Int :=
 if nameB (ps.getD i default).nm = false then 6
 else if ((ps.take i).any fun q => nmEq q.nm (ps.getD i default).nm) = true then 5
 else if ¬ onF W D (ps.getD i default).x (ps.getD i default).y then 4
 else if (ps.take i).any (atP (ps.getD i default).x (ps.getD i default).y) = true then 2
 else lenE (ps.getD i default)
def stE (W D : Int) (s : StT) : Int :=
 if ¬ (((-20 ≤ s.x ∧ s.x ≤ 20) ∧ (-20 ≤ s.y ∧ s.y ≤ 20)) ∧ ((0 ≤ s.lo ∧ s.lo ≤ 2000) ∧ (0 ≤ s.hi ∧ s.hi ≤ 2000))) then 7
 else if onF W D s.x s.y then 4
 else if s.lo > s.hi then 2 else 0
def hgE (h : Int) : Int := if 0 ≤ h ∧ h ≤ 500 then 0 else 7
def chk (m : Mod) : Int × Int × Int :=
 if ¬ ((1 ≤ m.W ∧ m.W ≤ 8) ∧ (1 ≤ m.D ∧ m.D ≤ 8)) then (1, 0, 7)
 else if (m.hs.length : Int) ≠ m.W * m.D then (1, 0, 3)
 else if (K.fst hgE m.hs).2 ≠ 0 then (1, K.fst hgE m.hs)
 else if m.ps.length > 6 then (2, 0, 3)
 else if (K.fst (pinE m.W m.D m.ps) (List.range m.ps.length)).2 ≠ 0 then (2, K.fst (pinE m.W m.D m.ps) (List.range m.ps.length))
 else if m.ss.length > 5 then (3, 0, 3)
 else if (K.fst (stE m.W m.D) m.ss).2 ≠ 0 then (3, K.fst (stE m.W m.D) m.ss)
 else (0, 0, 0)
section
variable {m : Mod}
theorem chk_1 (h : ¬ ((1 ≤ m.W ∧ m.W ≤ 8) ∧ (1 ≤ m.D ∧ m.D ≤ 8))) : chk m = (1, 0, 7) := by unfold chk; rw [if_pos h]
theorem chk_2 (h1 : (1 ≤ m.W ∧ m.W ≤ 8) ∧ (1 ≤ m.D ∧ m.D ≤ 8)) (h : (m.hs.length : Int) ≠ m.W * m.D) : chk m = (1, 0, 3) := by unfold chk; rw [if_neg (fun h' => h' h1), if_pos h]
theorem chk_3 (h1 : (1 ≤ m.W ∧ m.W ≤ 8) ∧ (1 ≤ m.D ∧ m.D ≤ 8)) (h2 : (m.hs.length : Int) = m.W * m.D) (h : (K.fst hgE m.hs).2 ≠ 0) : chk m = (1, K.fst hgE m.hs) := by
 unfold chk; rw [if_neg (fun h' => h' h1), if_neg (fun h' => h' h2), if_pos h]
theorem chk_4 (h1 : (1 ≤ m.W ∧ m.W ≤ 8) ∧ (1 ≤ m.D ∧ m.D ≤ 8)) (h2 : (m.hs.length : Int) = m.W * m.D) (h3 : (K.fst hgE m.hs).2 = 0) (h : m.ps.length > 6) : chk m = (2, 0, 3) := by
 unfold chk; rw [if_neg (fun h' => h' h1), if_neg (fun h' => h' h2), if_neg (fun h' => h' h3), if_pos h]
theorem chk_5 (h1 : (1 ≤ m.W ∧ m.W ≤ 8) ∧ (1 ≤ m.D ∧ m.D ≤ 8)) (h2 : (m.hs.length : Int) = m.W * m.D) (h3 : (K.fst hgE m.hs).2 = 0) (h4 : ¬ m.ps.length > 6) (h : (K.fst (pinE m.W m.D m.ps) (List.range m.ps.length)).2 ≠ 0) : chk m = (2, K.fst (pinE m.W m.D m.ps) (List.range m.ps.length)) := by
 unfold chk; rw [if_neg (fun h' => h' h1), if_neg (fun h' => h' h2), if_neg (fun h' => h' h3), if_neg h4, if_pos h]
theorem chk_6 (h1 : (1 ≤ m.W ∧ m.W ≤ 8) ∧ (1 ≤ m.D ∧ m.D ≤ 8)) (h2 : (m.hs.length : Int) = m.W * m.D) (h3 : (K.fst hgE m.hs).2 = 0) (h4 : ¬ m.ps.length > 6) (h5 : (K.fst (pinE m.W m.D m.ps) (List.range m.ps.length)).2 = 0) (h : m.ss.length > 5) : chk m = (3, 0, 3) := by
 unfold chk; rw [if_neg (fun h' => h' h1), if_neg (fun h' => h' h2), if_neg (fun h' => h' h3), if_neg h4, if_neg (fun h' => h' h5), if_pos h]
theorem chk_7 (h1 : (1 ≤ m.W ∧ m.W ≤ 8) ∧ (1 ≤ m.D ∧ m.D ≤ 8)) (h2 : (m.hs.length : Int) = m.W * m.D) (h3 : (K.fst hgE m.hs).2 = 0) (h4 : ¬ m.ps.length > 6) (h5 : (K.fst (pinE m.W m.D m.ps) (List.range m.ps.length)).2 = 0) (h6 : ¬ m.ss.length > 5) (h : (K.fst (stE m.W m.D) m.ss).2 ≠ 0) : chk m = (3, K.fst (stE m.W m.D) m.ss) := by
 unfold chk; rw [if_neg (fun h' => h' h1), if_neg (fun h' => h' h2), if_neg (fun h' => h' h3), if_neg h4, if_neg (fun h' => h' h5), if_neg h6, if_pos h]
theorem chk_0 (h1 : (1 ≤ m.W ∧ m.W ≤ 8) ∧ (1 ≤ m.D ∧ m.D ≤ 8)) (h2 : (m.hs.length : Int) = m.W * m.D) (h3 : (K.fst hgE m.hs).2 = 0) (h4 : ¬ m.ps.length > 6) (h5 : (K.fst (pinE m.W m.D m.ps) (List.range m.ps.length)).2 = 0) (h6 : ¬ m.ss.length > 5) (h7 : (K.fst (stE m.W m.D) m.ss).2 = 0) : chk m = (0, 0, 0) := by
 unfold chk; rw [if_neg (fun h' => h' h1), if_neg (fun h' => h' h2), if_neg (fun h' => h' h3), if_neg h4, if_neg (fun h' => h' h5), if_neg h6, if_neg (fun h' => h' h7)]
theorem pin_6 {W D : Int} {ps : List PinT} {i : Nat} (h : nameB (ps.getD i default).nm = false) : pinE W D ps i = 6 := by unfold pinE; rw [if_pos h]
theorem pin_5 {W D : Int} {ps : List PinT} {i : Nat} (h1 : nameB (ps.getD i default).nm = true) (h : ((ps.take i).any fun q => nmEq q.nm (ps.getD i default).nm) = true) : pinE W D ps i = 5 := by unfold pinE; rw [if_neg (by rw [h1]; simp), if_pos h]
theorem pin_4 {W D : Int} {ps : List PinT} {i : Nat} (h1 : nameB (ps.getD i default).nm = true) (h2 : ((ps.take i).any fun q => nmEq q.nm (ps.getD i default).nm) = false) (h : ¬ onF W D (ps.getD i default).x (ps.getD i default).y) : pinE W D ps i = 4 := by unfold pinE; rw [if_neg (by rw [h1]; simp), if_neg (by rw [h2]; simp), if_pos h]
theorem pin_2 {W D : Int} {ps : List PinT} {i : Nat} (h1 : nameB (ps.getD i default).nm = true) (h2 : ((ps.take i).any fun q => nmEq q.nm (ps.getD i default).nm) = false) (h3 : onF W D (ps.getD i default).x (ps.getD i default).y) (h : (ps.take i).any (atP (ps.getD i default).x (ps.getD i default).y) = true) : pinE W D ps i = 2 := by
 unfold pinE; rw [if_neg (by rw [h1]; simp), if_neg (by rw [h2]; simp), if_neg (fun h' => h' h3), if_pos h]
theorem pin_7 {W D : Int} {ps : List PinT} {i : Nat} (h1 : nameB (ps.getD i default).nm = true) (h2 : ((ps.take i).any fun q => nmEq q.nm (ps.getD i default).nm) = false) (h3 : onF W D (ps.getD i default).x (ps.getD i default).y) (h4 : (ps.take i).any (atP (ps.getD i default).x (ps.getD i default).y) = false) : pinE W D ps i = lenE (ps.getD i default) := by
 unfold pinE; rw [if_neg (by rw [h1]; simp), if_neg (by rw [h2]; simp), if_neg (fun h' => h' h3), if_neg (by rw [h4]; simp)]
end
def freshE (s : ByteArray) (l : List ByteArray) : Int := if nameB s = false then 6 else if (l.any fun q => nmEq q s) = true then 5 else 0
def pinR (W D : Int) (ps : List PinT) (i : Nat) : Int :=
 if ¬ onF W D (ps.getD i default).x (ps.getD i default).y then 4
 else if (ps.take i).any (atP (ps.getD i default).x (ps.getD i default).y) = true then 2
 else lenE (ps.getD i default)
theorem pinR_4 {W D : Int} {ps : List PinT} {i : Nat} (h : ¬ onF W D (ps.getD i default).x (ps.getD i default).y) : pinR W D ps i = 4 := by unfold pinR; rw [if_pos h]
theorem pinR_2 {W D : Int} {ps : List PinT} {i : Nat} (h1 : onF W D (ps.getD i default).x (ps.getD i default).y) (h : (ps.take i).any (atP (ps.getD i default).x (ps.getD i default).y) = true) : pinR W D ps i = 2 := by unfold pinR; rw [if_neg (fun h' => h' h1), if_pos h]
theorem pinR_0 {W D : Int} {ps : List PinT} {i : Nat} (h1 : onF W D (ps.getD i default).x (ps.getD i default).y) (h : (ps.take i).any (atP (ps.getD i default).x (ps.getD i default).y) = false) : pinR W D ps i = lenE (ps.getD i default) := by unfold pinR; rw [if_neg (fun h' => h' h1), if_neg (by rw [h]; simp)]
theorem lenE_7 {p : PinT} (h : ¬ ((0 ≤ p.len ∧ p.len ≤ 300) ∧ (0 ≤ p.most ∧ p.most ≤ 300) ∧ p.len ≤ p.most)) : lenE p = 7 := by unfold lenE; rw [if_neg h]
theorem lenE_0 {p : PinT} (h : (0 ≤ p.len ∧ p.len ≤ 300) ∧ (0 ≤ p.most ∧ p.most ≤ 300) ∧ p.len ≤ p.most) : lenE p = 0 := by unfold lenE; rw [if_pos h]
theorem pin_fresh {W D : Int} {ps : List PinT} {i : Nat} : pinE W D ps i = if freshE (ps.getD i default).nm ((ps.take i).map (·.nm)) = 0 then pinR W D ps i else freshE (ps.getD i default).nm ((ps.take i).map (·.nm)) := by
 have e : (((ps.take i).map (·.nm)).any fun q => nmEq q (ps.getD i default).nm) = (ps.take i).any fun q => nmEq q.nm (ps.getD i default).nm := by rw [List.any_map]; rfl
 unfold pinE freshE pinR
 rw [e]
 split
 ·simp
 ·split
  ·simp
  ·simp
structure Good (m : Mod) : Prop where
 w : 1 ≤ m.W ∧ m.W ≤ 8
 d : 1 ≤ m.D ∧ m.D ≤ 8
 l : (m.hs.length : Int) = m.W * m.D
 h : ∀ h ∈ m.hs, 0 ≤ h ∧ h ≤ 500
 n : m.ps.length ≤ 6
 p : ∀ i, i < m.ps.length → onF m.W m.D (m.ps.getD i default).x (m.ps.getD i default).y ∧ (0 ≤ (m.ps.getD i default).len ∧ (m.ps.getD i default).len ≤ (m.ps.getD i default).most ∧ (m.ps.getD i default).most ≤ 300)
 u : ∀ i, i < m.ps.length → ∀ j, j < i → ¬ ((m.ps.getD j default).x = (m.ps.getD i default).x ∧ (m.ps.getD j default).y = (m.ps.getD i default).y)
 k : m.ss.length ≤ 5
 s : ∀ s ∈ m.ss, ((-20 ≤ s.x ∧ s.x ≤ 20) ∧ (-20 ≤ s.y ∧ s.y ≤ 20)) ∧ (0 ≤ s.lo ∧ s.lo ≤ s.hi ∧ s.hi ≤ 2000) ∧ ¬ onF m.W m.D s.x s.y
theorem fst_zero {E : Type} {q : E → Int} {xs : List E} : (K.fst q xs).2 = 0 ↔ ∀ x ∈ xs, q x = 0 := by
 unfold K.fst
 cases h : xs.findIdx? (fun x => q x != 0) with
 | none =>
  have h' := List.findIdx?_eq_none_iff.1 h
  simpa using h'
 | some i =>
  obtain ⟨hi, h1, _⟩ := List.findIdx?_eq_some_iff_getElem.1 h
  simp only [List.getElem?_eq_getElem hi]
  constructor
  ·intro h2; simp [h2] at h1
  ·intro h2; exact h2 _ (List.getElem_mem hi)
theorem chk_part {m : Mod} : (chk m).2.2 = 0 ↔ ((1 ≤ m.W ∧ m.W ≤ 8) ∧ (1 ≤ m.D ∧ m.D ≤ 8)) ∧ (m.hs.length : Int) = m.W * m.D ∧ (K.fst hgE m.hs).2 = 0 ∧ ¬ m.ps.length > 6 ∧ (K.fst (pinE m.W m.D m.ps) (List.range m.ps.length)).2 = 0 ∧ ¬ m.ss.length > 5 ∧ (K.fst (stE m.W m.D) m.ss).2 = 0 := by
 constructor
 ·intro h
  by_cases h1 : (1 ≤ m.W ∧ m.W ≤ 8) ∧ (1 ≤ m.D ∧ m.D ≤ 8)
  ·by_cases h2 : (m.hs.length : Int) = m.W * m.D
   ·by_cases h3 : (K.fst hgE m.hs).2 = 0
    ·by_cases h4 : m.ps.length > 6
     ·rw [chk_4 h1 h2 h3 h4] at h; cases h
     ·by_cases h5 : (K.fst (pinE m.W m.D m.ps) (List.range m.ps.length)).2 = 0
      ·by_cases h6 : m.ss.length > 5
       ·rw [chk_6 h1 h2 h3 h4 h5 h6] at h; cases h
       ·by_cases h7 : (K.fst (stE m.W m.D) m.ss).2 = 0
        ·exact ⟨h1, h2, h3, h4, h5, h6, h7⟩
        ·rw [chk_7 h1 h2 h3 h4 h5 h6 h7] at h; exact absurd h h7
      ·rw [chk_5 h1 h2 h3 h4 h5] at h; exact absurd h h5
    ·rw [chk_3 h1 h2 h3] at h; exact absurd h h3
   ·rw [chk_2 h1 h2] at h; cases h
  ·rw [chk_1 h1] at h; cases h
 ·rintro ⟨h1, h2, h3, h4, h5, h6, h7⟩
  rw [chk_0 h1 h2 h3 h4 h5 h6 h7]
theorem anyT_f {E : Type} [Inhabited E] {xs : List E} {q : E → Bool} {i : Nat} (hi : i ≤ xs.length) (h : ∀ j, j < i → q (xs.getD j default) = false) : (xs.take i).any q = false := by
 rw [List.any_eq_false]
 intro x hx
 obtain ⟨j, hj, rfl⟩ := List.mem_take_iff_getElem.1 hx
 have := h j (by omega)
 rw [List.getD_eq_getElem?_getD, List.getElem?_eq_getElem (by omega)] at this
 simpa using this
theorem anyT_t {E : Type} [Inhabited E] {xs : List E} {q : E → Bool} {i k : Nat} (hk : k < i) (hi : i ≤ xs.length) (h : q (xs.getD k default) = true) : (xs.take i).any q = true :=
 List.any_eq_true.2 ⟨xs.getD k default, by
  rw [List.getD_eq_getElem?_getD, List.getElem?_eq_getElem (by omega)]
  exact List.mem_take_iff_getElem.2 ⟨k, by omega, rfl⟩, h⟩
theorem any_false_at {E : Type} [Inhabited E] {xs : List E} {q : E → Bool} {i : Nat} (h : (xs.take i).any q = false) {j : Nat} (hj : j < i) (hi : i ≤ xs.length) : q (xs.getD j default) = false := by
 have h1 := List.any_eq_false.1 h (xs.getD j default) (by
  rw [List.getD_eq_getElem?_getD, List.getElem?_eq_getElem (by omega)]
  exact List.mem_take_iff_getElem.2 ⟨j, by omega, rfl⟩)
 simpa using h1
theorem chk_good {m : Mod} (h : (chk m).2.2 = 0) : Good m := by
 obtain ⟨h1, h2, h3, h4, h5, h6, h7⟩ := chk_part.1 h
 have hp : ∀ i, i < m.ps.length → pinE m.W m.D m.ps i = 0 := fun i hi => fst_zero.1 h5 i (List.mem_range.2 hi)
 refine ⟨h1.1, h1.2, h2, fun x hx => ?_, by omega, fun i hi => ?_, fun i hi j hj => ?_, by omega, fun s hs => ?_⟩
 ·have := fst_zero.1 h3 x hx
  unfold hgE at this
  split at this
  ·assumption
  ·cases this
 ·have := hp i hi
  unfold pinE at this
  split at this
  ·cases this
  split at this
  ·cases this
  split at this
  ·cases this
  split at this
  ·cases this
  unfold lenE at this
  split at this
  ·rename_i a b c d e
   exact ⟨Decidable.not_not.1 c, by omega⟩
  ·cases this
 ·have := hp i hi
  unfold pinE at this
  split at this
  ·cases this
  split at this
  ·cases this
  split at this
  ·cases this
  split at this
  ·cases this
  ·rename_i hc
   have h8 := any_false_at (by simpa using hc) hj (by omega)
   unfold atP at h8
   simpa using h8
 ·have := fst_zero.1 h7 s hs
  unfold stE at this
  split at this
  ·cases this
  split at this
  ·cases this
  split at this
  ·cases this
  ·rename_i a b c
   exact ⟨by omega, by omega, b⟩
section
variable {m : Mod} {k : Nat}
theorem range_at {n j : Nat} (h : j < n) : (List.range n).getD j default = j := by
 rw [List.getD_eq_getElem?_getD, List.getElem?_range h]; rfl
theorem fst_hs (h : ∀ j, j < m.hs.length → hgE (m.hs.getD j default) = 0) : (K.fst hgE m.hs).2 = 0 := by rw [K.fst_none h]
theorem fst_ps {W D : Int} {ps : List PinT} (h : ∀ j, j < ps.length → pinE W D ps j = 0) : (K.fst (pinE W D ps) (List.range ps.length)).2 = 0 := by
 rw [K.fst_none (fun j hj => by rw [List.length_range] at hj; rw [range_at hj]; exact h j hj)]
theorem chk_h (h1 : (1 ≤ m.W ∧ m.W ≤ 8) ∧ (1 ≤ m.D ∧ m.D ≤ 8)) (h2 : (m.hs.length : Int) = m.W * m.D) (hk : k < m.hs.length) (hall : ∀ j, j < k → hgE (m.hs.getD j default) = 0) (hne : ¬ (0 ≤ m.hs.getD k default ∧ m.hs.getD k default ≤ 500)) : chk m = (1, (k : Int), 7) := by
 have e : hgE (m.hs.getD k default) = 7 := by unfold hgE; rw [if_neg hne]
 have f := K.fst_found hk hall (show hgE (m.hs.getD k default) ≠ 0 by omega)
 rw [e] at f
 rw [chk_3 h1 h2 (by rw [f]; simp), f]
theorem hg_0 {h : Int} (hh : 0 ≤ h ∧ h ≤ 500) : hgE h = 0 := by unfold hgE; rw [if_pos hh]
theorem chk_p (h1 : (1 ≤ m.W ∧ m.W ≤ 8) ∧ (1 ≤ m.D ∧ m.D ≤ 8)) (h2 : (m.hs.length : Int) = m.W * m.D) (h3 : (K.fst hgE m.hs).2 = 0) (h4 : ¬ m.ps.length > 6) (hk : k < m.ps.length) (hall : ∀ j, j < k → pinE m.W m.D m.ps j = 0) (hne : pinE m.W m.D m.ps k ≠ 0) : chk m = (2, (k : Int), pinE m.W m.D m.ps k) := by
 have hk' : k < (List.range m.ps.length).length := by rw [List.length_range]; exact hk
 have f := K.fst_found (q := pinE m.W m.D m.ps) hk' (fun j hj => by rw [range_at (by omega)]; exact hall j hj) (by rw [range_at hk]; exact hne)
 rw [range_at hk] at f
 rw [chk_5 h1 h2 h3 h4 (by rw [f]; exact hne), f]
theorem chk_s (h1 : (1 ≤ m.W ∧ m.W ≤ 8) ∧ (1 ≤ m.D ∧ m.D ≤ 8)) (h2 : (m.hs.length : Int) = m.W * m.D) (h3 : (K.fst hgE m.hs).2 = 0) (h4 : ¬ m.ps.length > 6) (h5 : (K.fst (pinE m.W m.D m.ps) (List.range m.ps.length)).2 = 0) (h6 : ¬ m.ss.length > 5) (hk : k < m.ss.length) (hall : ∀ j, j < k → stE m.W m.D (m.ss.getD j default) = 0) (hne : stE m.W m.D (m.ss.getD k default) ≠ 0) : chk m = (3, (k : Int), stE m.W m.D (m.ss.getD k default)) := by
 have f := K.fst_found hk hall hne
 rw [chk_7 h1 h2 h3 h4 h5 h6 (by rw [f]; exact hne), f]
theorem wd_bd {W D : Int} (h : (1 ≤ W ∧ W ≤ 8) ∧ (1 ≤ D ∧ D ≤ 8)) : 1 ≤ W * D ∧ W * D ≤ 64 := by
 have h1 : 1 * 1 ≤ W * D := Int.mul_le_mul h.1.1 h.2.1 (by omega) (by omega)
 have h2 : W * D ≤ 8 * 8 := Int.mul_le_mul h.1.2 h.2.2 (by omega) (by omega)
 omega
end
def gcdS (a b : Int) : Int := (Int.gcd a b : Nat)
def pinAt (m : Mod) (f : Int) : Option Nat := (List.range m.ps.length).find? fun i => decide ((m.ps.getD i default).y * m.W + (m.ps.getD i default).x = f)
def topS (m : Mod) (l : List Int) (f : Int) : Int := m.hs.getD f.toNat default + match pinAt m f with | some i => l.getD i default | none => 0
def stepAt (m : Mod) (x y px py g n : Int) : Option (Int × Int × Int) :=
 if onF m.W m.D (x + (px - x) / g * n) (y + (py - y) / g * n) then some ((y + (py - y) / g * n) * m.W + (x + (px - x) / g * n), n, g) else none
def stepsS (m : Mod) (x y : Int) (i : Nat) : List (Int × Int × Int) :=
 (List.range ((gcdS ((m.ps.getD i default).x - x) ((m.ps.getD i default).y - y)).toNat - 1)).filterMap fun (k : Nat) =>
  stepAt m x y (m.ps.getD i default).x (m.ps.getD i default).y (gcdS ((m.ps.getD i default).x - x) ((m.ps.getD i default).y - y)) ((k : Int) + 1)
def headS (m : Mod) (l : List Int) (i : Nat) : Int := m.hs.getD ((m.ps.getD i default).y * m.W + (m.ps.getD i default).x).toNat default + l.getD i default
def hideB (m : Mod) (l : List Int) (eye : Int) (i : Nat) (s : Int × Int × Int) : Bool := decide (topS m l s.1 * s.2.2 ≥ eye * (s.2.2 - s.2.1) + headS m l i * s.2.1)
def hidesS (m : Mod) (l : List Int) (x y eye : Int) (i : Nat) : List Int := ((stepsS m x y i).filter (hideB m l eye i)).map (·.1)
def ownS (m : Mod) : List Int := m.ps.map (·.len)
theorem hg_le {h : Int} : hgE h = 0 ∨ hgE h = 7 := by unfold hgE; split <;> simp
theorem hg_idx {hs : List Int} (h : K.idx (fun h => decide (hgE h ≠ 0)) hs ≥ 0) : K.fst hgE hs = (K.idx (fun h => decide (hgE h ≠ 0)) hs, 7) := by
 unfold K.idx K.fst at *
 have e : (fun x => hgE x != 0) = (fun h => decide (hgE h ≠ 0)) := by funext x; by_cases hx : hgE x = 0 <;> simp [hx]
 rw [e]
 cases hf : hs.findIdx? (fun h => decide (hgE h ≠ 0)) with
 | none => rw [hf] at h; simp at h
 | some i =>
  obtain ⟨hi, h1, _⟩ := List.findIdx?_eq_some_iff_getElem.1 hf
  simp only [List.getElem?_eq_getElem hi]
  have h2 : hgE hs[i] ≠ 0 := by simpa using h1
  rw [hg_le.resolve_left h2]
theorem hg_idx0 {hs : List Int} (h : ¬ K.idx (fun h => decide (hgE h ≠ 0)) hs ≥ 0) : (K.fst hgE hs).2 = 0 := by
 unfold K.idx at h
 unfold K.fst
 have e : (fun x => hgE x != 0) = (fun h => decide (hgE h ≠ 0)) := by funext x; by_cases hx : hgE x = 0 <;> simp [hx]
 rw [e]
 cases hf : hs.findIdx? (fun h => decide (hgE h ≠ 0)) with
 | none => rfl
 | some i => rw [hf] at h; simp at h
end Go.Proofs.YtnhhfkgldoeifaaGreatDoor.Pn

namespace Go.Proofs.YtnhhfkgldoeifaaGreatDoor.Pn
open Go
def spreadE (low high : Int) (xs : List (Int × Int)) : Int :=
 if xs.any (fun s => decide (¬ ((low ≤ s.1 ∧ s.1 ≤ high) ∧ (low ≤ s.2 ∧ s.2 ≤ high)))) then 7 else if xs.any (fun s => decide (s.1 > s.2)) then 2 else 0
theorem any_take {E : Type} [Inhabited E] {p : E → Bool} {xs : List E} {k : Nat} (h : k < xs.length) : (xs.take (k + 1)).any p = ((xs.take k).any p || p (xs.getD k default)) := by
 rw [List.take_add_one, List.getElem?_eq_getElem h, List.any_append]
 simp [List.getD_eq_getElem?_getD, h]
theorem any_f {E : Type} [Inhabited E] {p : E → Bool} {xs : List E} (h : ∀ j, j < xs.length → p (xs.getD j default) = false) : xs.any p = false := by
 rw [List.any_eq_false]
 intro x hx
 obtain ⟨j, hj, rfl⟩ := List.getElem_of_mem hx
 have := h j hj
 rw [List.getD_eq_getElem?_getD, List.getElem?_eq_getElem hj] at this
 simpa using this
theorem any_t {E : Type} [Inhabited E] {p : E → Bool} {xs : List E} {j : Nat} (hj : j < xs.length) (h : p (xs.getD j default) = true) : xs.any p = true := List.any_eq_true.2 ⟨_, K.gt_mem hj, h⟩
theorem take_succ_map {E F : Type} [Inhabited E] (f : E → F) {xs : List E} {k : Nat} (h : k < xs.length) : (xs.take (k + 1)).map f = (xs.take k).map f ++ [f (xs.getD k default)] := by
 rw [List.take_add_one, List.getElem?_eq_getElem h, List.map_append]
 simp [List.getD_eq_getElem?_getD, h]
theorem take_all {E : Type} {xs : List E} {k : Nat} (h : xs.length ≤ k) : xs.take k = xs := List.take_of_length_le h
def selN (p : Nat → Bool) (n : Nat) : List Int := ((List.range n).filter p).map fun (i : Nat) => (i : Int)
theorem selN_succ {p : Nat → Bool} {n : Nat} : selN p (n + 1) = selN p n ++ (if p n then [(n : Int)] else []) := by
 unfold selN
 rw [List.range_succ, List.filter_append, List.map_append]
 split <;> simp_all
theorem selN_len {p : Nat → Bool} {n : Nat} : (selN p n).length ≤ n := by
 unfold selN; rw [List.length_map]
 exact Nat.le_trans (List.length_filter_le _ _) (by simp)
theorem mem_sel {p : Nat → Bool} {n : Nat} {x : Int} : x ∈ selN p n ↔ ∃ i : Nat, i < n ∧ p i = true ∧ x = (i : Int) := by
 unfold selN
 simp only [List.mem_map, List.mem_filter, List.mem_range]
 constructor
 ·rintro ⟨i, ⟨h1, h2⟩, rfl⟩; exact ⟨i, h1, h2, rfl⟩
 ·rintro ⟨i, h1, h2, rfl⟩; exact ⟨i, ⟨h1, h2⟩, rfl⟩
end Go.Proofs.YtnhhfkgldoeifaaGreatDoor.Pn

namespace Go.Proofs.YtnhhfkgldoeifaaGreatDoor.Pn
open Go
theorem fld_bd {W D x y : Int} (hW : 1 ≤ W ∧ W ≤ 8) (hD : 1 ≤ D ∧ D ≤ 8) (h : onF W D x y) : 0 ≤ y * W + x ∧ y * W + x < W * D ∧ y * W + x ≤ 63 ∧ 0 ≤ y * W ∧ y * W ≤ 56 := by
 have hw : W = 1 ∨ W = 2 ∨ W = 3 ∨ W = 4 ∨ W = 5 ∨ W = 6 ∨ W = 7 ∨ W = 8 := by omega
 obtain ⟨h1, h2⟩ := h
 rcases hw with h | h | h | h | h | h | h | h <;> subst h <;> omega
theorem fld_inj {W D x y x' y' : Int} (hW : 1 ≤ W ∧ W ≤ 8) (h : onF W D x y) (h' : onF W D x' y') (e : y * W + x = y' * W + x') : x = x' ∧ y = y' := by
 have hw : W = 1 ∨ W = 2 ∨ W = 3 ∨ W = 4 ∨ W = 5 ∨ W = 6 ∨ W = 7 ∨ W = 8 := by omega
 obtain ⟨h1, h2⟩ := h
 obtain ⟨h3, h4⟩ := h'
 rcases hw with h | h | h | h | h | h | h | h <;> subst h <;> omega
def fldS (m : Mod) (i : Nat) : Int := (m.ps.getD i default).y * m.W + (m.ps.getD i default).x
theorem Good.fld {m : Mod} (g : Good m) {i : Nat} (hi : i < m.ps.length) : 0 ≤ fldS m i ∧ fldS m i < m.W * m.D ∧ fldS m i ≤ 63 ∧ 0 ≤ (m.ps.getD i default).y * m.W ∧ (m.ps.getD i default).y * m.W ≤ 56 := fld_bd g.w g.d (g.p i hi).1
theorem Good.fldU {m : Mod} (g : Good m) {i j : Nat} (hi : i < m.ps.length) (hj : j < m.ps.length) (e : fldS m i = fldS m j) : i = j := by
 have h := fld_inj g.w (g.p i hi).1 (g.p j hj).1 e
 rcases Nat.lt_trichotomy i j with h1 | h1 | h1
 ·exact absurd h (g.u j hj i h1)
 ·exact h1
 ·exact absurd ⟨h.1.symm, h.2.symm⟩ (g.u i hi j h1)
def pinAtK (m : Mod) (k : Nat) (f : Int) : Option Nat := (List.range k).find? fun i => decide (fldS m i = f)
theorem pinAt_eq {m : Mod} {f : Int} : pinAt m f = pinAtK m m.ps.length f := rfl
theorem pinAtK_some {m : Mod} {k i : Nat} {f : Int} (h : pinAtK m k f = some i) : i < k ∧ fldS m i = f := by
 have h1 := List.mem_of_find?_eq_some h
 have h2 := List.find?_some h
 exact ⟨List.mem_range.1 h1, of_decide_eq_true h2⟩
theorem pinAtK_none {m : Mod} {k : Nat} {f : Int} : pinAtK m k f = none ↔ ∀ i, i < k → fldS m i ≠ f := by
 unfold pinAtK
 rw [List.find?_eq_none]
 constructor
 ·intro h i hi e; exact h i (List.mem_range.2 hi) (decide_eq_true e)
 ·intro h i hi e; exact h i (List.mem_range.1 hi) (of_decide_eq_true e)
theorem pinAtK_succ {m : Mod} {k : Nat} {f : Int} : pinAtK m (k + 1) f = (pinAtK m k f).or (if fldS m k = f then some k else none) := by
 unfold pinAtK
 rw [List.range_succ, List.find?_append]
 congr 1
 by_cases h : fldS m k = f <;> simp [h]
def pinV (o : Option Nat) : Int := match o with | some i => (i : Int) | none => -1
theorem topS_eq {m : Mod} {l : List Int} {f : Int} : topS m l f = m.hs.getD f.toNat default + match pinAt m f with | some i => l.getD i default | none => 0 := rfl
abbrev iI (x : Int) : Value := .int .i64 x
def ln (l : List Int) : List Value := [iI (l.getD 0 default), iI (l.getD 1 default), iI (l.getD 2 default), iI (l.getD 3 default), iI (l.getD 4 default), iI (l.getD 5 default)]
theorem ln_at {l : List Int} {i : Nat} (h : i < 6) : (ln l)[i]? = some (iI (l.getD i default)) := by
 have : i = 0 ∨ i = 1 ∨ i = 2 ∨ i = 3 ∨ i = 4 ∨ i = 5 := by omega
 rcases this with h | h | h | h | h | h <;> subst h <;> rfl
theorem ln_set {l : List Int} {i : Nat} {v : Int} (h : i < 6) (hl : l.length = 6) : K.setn (ln l) i (iI v) = ln (l.set i v) := by
 have h0 : ∀ j, j < 6 → (l.set i v).getD j default = if i = j then v else l.getD j default := fun j hj => by
  rw [List.getD_eq_getElem?_getD, List.getElem?_set]
  split
  ·rename_i e; subst e; rw [if_pos (by omega)]; rfl
  ·rw [← List.getD_eq_getElem?_getD]
 have : i = 0 ∨ i = 1 ∨ i = 2 ∨ i = 3 ∨ i = 4 ∨ i = 5 := by omega
 unfold ln
 rw [h0 0 (by omega), h0 1 (by omega), h0 2 (by omega), h0 3 (by omega), h0 4 (by omega), h0 5 (by omega)]
 rcases this with h | h | h | h | h | h <;> subst h <;> rfl
def tp (m : Mod) : List Int := (List.range 64).map fun i => m.hs.getD i default
def pnK (m : Mod) (k : Nat) : List Int := (List.range 64).map fun (i : Nat) => pinV (pinAtK m k (i : Int))
def owK (m : Mod) (k : Nat) : List Int := (List.range 6).map fun i => if i < k then (m.ps.getD i default).len else 0
def mdG (c5 : List Value) (o t p : List Int) : List Value := c5 ++ (o ++ (t ++ p)).map iI
def mdl (m : Mod) (A B C : Option Addr) (c d e : Nat) : List Value := iI m.W :: iI m.D :: .slice A m.hs.length c :: .slice B m.ps.length d :: .slice C m.ss.length e :: (ln (ownS m) ++ (tp m ++ pnK m m.ps.length).map iI)
section
variable {m : Mod} {A B C : Option Addr} {c d e : Nat}
theorem tp_len : (tp m).length = 64 := by simp [tp]
theorem pn_len {k : Nat} : (pnK m k).length = 64 := by simp [pnK]
theorem ow_len {k : Nat} : (owK m k).length = 6 := by simp [owK]
theorem own_at {i : Nat} (h : i < m.ps.length) : (ownS m).getD i default = (m.ps.getD i default).len := by
 simp [ownS, List.getD_eq_getElem?_getD, h]
theorem own_out {i : Nat} (h : ¬ i < m.ps.length) : (ownS m).getD i default = 0 := by
 simp only [ownS, List.getD_eq_getElem?_getD, List.getElem?_map]
 rw [List.getElem?_eq_none (by omega)]; rfl
theorem own_len : (ownS m).length = m.ps.length := by simp [ownS]
theorem mdl_top {f : Nat} (hf : f < 64) : (mdl m A B C c d e)[11 + f]? = some (iI (m.hs.getD f default)) := by
 rw [show 11 + f = (6 + f) + 5 by omega]
 show (ln (ownS m) ++ (tp m ++ pnK m m.ps.length).map iI)[6 + f]? = _
 rw [List.getElem?_append_right (by simp [ln])]
 have e1 : 6 + f - (ln (ownS m)).length = f := by simp [ln]
 rw [e1, List.map_append, List.getElem?_append_left (by simp [tp_len]; exact hf)]
 simp [tp, hf]
theorem mdl_pin {f : Nat} (hf : f < 64) : (mdl m A B C c d e)[75 + f]? = some (iI (pinV (pinAt m (f : Int)))) := by
 rw [show 75 + f = (70 + f) + 5 by omega]
 show (ln (ownS m) ++ (tp m ++ pnK m m.ps.length).map iI)[70 + f]? = _
 rw [List.getElem?_append_right (by simp [ln]; omega)]
 have e1 : 70 + f - (ln (ownS m)).length = 64 + f := by simp [ln]; omega
 rw [e1, List.map_append, List.getElem?_append_right (by simp [tp_len])]
 simp [tp_len, pnK, hf, pinAt_eq]
theorem mdG_len {c5 : List Value} {o t p : List Int} : (mdG c5 o t p).length = c5.length + (o.length + (t.length + p.length)) := by simp [mdG]
theorem mdG_pin {c5 : List Value} {o t p : List Int} {f : Nat} {v : Int} (h5 : c5.length = 5) (ho : o.length = 6) (ht : t.length = 64) : K.setn (mdG c5 o t p) (75 + f) (iI v) = mdG c5 o t (p.set f v) := by
 rw [K.setn_eq, mdG, mdG, List.set_append_right _ _ (by omega)]
 congr 1
 rw [List.map_append, List.map_append, List.set_append_right _ _ (by simp; omega), List.set_append_right _ _ (by simp; omega)]
 simp only [List.length_map]
 have e1 : 75 + f - c5.length - o.length - t.length = f := by omega
 rw [e1, List.map_append, List.map_append, List.map_set]
theorem mdG_own {c5 : List Value} {o t p : List Int} {f : Nat} {v : Int} (h5 : c5.length = 5) (ho : f < o.length) : K.setn (mdG c5 o t p) (5 + f) (iI v) = mdG c5 (o.set f v) t p := by
 rw [K.setn_eq, mdG, mdG, List.set_append_right _ _ (by omega)]
 congr 1
 have e1 : 5 + f - c5.length = f := by omega
 rw [e1]
 simp only [List.map_append]
 rw [List.set_append_left _ _ (by simpa using ho)]
 simp only [List.map_set]
theorem mdG_copy {c5 : List Value} {o t p hs : List Int} (h5 : c5.length = 5) (ho : o.length = 6) (ht : hs.length ≤ t.length) : (mdG c5 o t p).take 11 ++ hs.flatMap K.eI ++ (mdG c5 o t p).drop (11 + hs.length) = mdG c5 o (hs ++ t.drop hs.length) p := by
 have e0 : hs.flatMap K.eI = hs.map iI := by induction hs with
  | nil => rfl
  | cons x xs ih => rw [List.flatMap_cons, ih (by simp at ht; omega)]; rfl
 have e1 : (mdG c5 o t p).take 11 = c5 ++ o.map iI := by
  rw [mdG, List.take_append, List.take_of_length_le (by omega), h5, List.map_append, List.take_append, List.take_of_length_le (by simp [ho])]
  simp [ho]
 have e2 : (mdG c5 o t p).drop (11 + hs.length) = (t.drop hs.length).map iI ++ p.map iI := by
  rw [mdG, List.drop_append, List.drop_of_length_le (by omega), List.nil_append, List.map_append, List.drop_append, List.drop_of_length_le (by simp; omega), List.nil_append, List.map_append, List.drop_append]
  have e3 : 11 + hs.length - c5.length - (o.map iI).length = hs.length := by simp; omega
  rw [e3]
  have e4 : hs.length - (t.map iI).length = 0 := by simp; omega
  rw [e4, List.drop_zero, List.map_drop]
 rw [e0, e1, e2, mdG]
 simp
theorem cop_tp (h : m.hs.length ≤ 64) : m.hs ++ (List.replicate 64 (0 : Int)).drop m.hs.length = tp m := by
 apply List.ext_getElem?
 intro i
 simp only [tp, List.getElem?_append, List.getElem?_map, List.drop_replicate, List.getElem?_replicate]
 rcases Nat.lt_or_ge i 64 with h1 | h1
 ·rw [List.getElem?_range h1]
  split
  ·rename_i h2; simp [List.getD_eq_getElem?_getD, h2]
  ·rename_i h2
   rw [if_pos (by omega)]
   simp [List.getD_eq_getElem?_getD, List.getElem?_eq_none (Nat.le_of_not_lt h2)]
 ·rw [if_neg (by omega), if_neg (by omega), List.getElem?_eq_none (by simp; omega)]; rfl
def negK (k : Nat) : List Int := (List.range 64).map fun i => if i < k then -1 else 0
theorem neg_set {k : Nat} (h : k < 64) : (negK k).set k (-1) = negK (k + 1) := by
 apply List.ext_getElem?
 intro i
 simp only [negK, List.getElem?_set, List.getElem?_map, List.length_map, List.length_range]
 rcases Nat.lt_or_ge i 64 with h1 | h1
 ·rw [List.getElem?_range h1]
  split
  ·rename_i h2; subst h2; simp [h]
  ·rename_i h2
   simp only [Option.map_some]
   by_cases h3 : i < k
   ·rw [if_pos h3, if_pos (by omega)]
   ·rw [if_neg h3, if_neg (by omega)]
 ·rw [if_neg (by omega), List.getElem?_eq_none (by simp; omega)]; rfl
theorem neg_len {k : Nat} : (negK k).length = 64 := by simp [negK]
theorem neg_end {k : Nat} (h : 64 ≤ k) : negK k = pnK m 0 := by
 unfold negK pnK
 apply List.map_congr_left
 intro i hi
 rw [if_pos (by have := List.mem_range.1 hi; omega)]
 rfl
theorem pn_set {k : Nat} (g : Good m) (h : k < m.ps.length) : (pnK m k).set (fldS m k).toNat (k : Int) = pnK m (k + 1) := by
 have hb := g.fld h
 apply List.ext_getElem?
 intro i
 simp only [pnK, List.getElem?_set, List.getElem?_map, List.length_map, List.length_range]
 rcases Nat.lt_or_ge i 64 with h1 | h1
 ·rw [List.getElem?_range h1]
  simp only [Option.map_some]
  split
  ·rename_i h2
   rw [if_pos (by omega)]
   have e1 : fldS m k = (i : Int) := by omega
   have e2 : pinAtK m k (i : Int) = none := pinAtK_none.2 (fun j hj he => by
    have := g.fldU (by omega) h (he.trans e1.symm)
    omega)
   rw [pinAtK_succ, e2, if_pos e1]; rfl
  ·rename_i h2
   rw [pinAtK_succ, if_neg (by omega), Option.or_none]
 ·rw [if_neg (by omega), List.getElem?_eq_none (by simp; omega)]; rfl
theorem ow_set {k : Nat} (h : k < 6) : (owK m k).set k (m.ps.getD k default).len = owK m (k + 1) := by
 apply List.ext_getElem?
 intro i
 simp only [owK, List.getElem?_set, List.getElem?_map, List.length_map, List.length_range]
 rcases Nat.lt_or_ge i 6 with h1 | h1
 ·rw [List.getElem?_range h1]
  split
  ·rename_i h2; subst h2; simp [h]
  ·rename_i h2
   simp only [Option.map_some]
   by_cases h3 : i < k
   ·rw [if_pos h3, if_pos (by omega)]
   ·rw [if_neg h3, if_neg (by omega)]
 ·rw [if_neg (by omega), List.getElem?_eq_none (by simp; omega)]; rfl
theorem ow_ln : (owK m m.ps.length).map iI = ln (ownS m) := by
 have h : ∀ i, (if i < m.ps.length then (m.ps.getD i default).len else 0) = (ownS m).getD i default := fun i => by
  split
  ·rename_i h; rw [own_at h]
  ·rename_i h; rw [own_out h]
 have e : owK m m.ps.length = (List.range 6).map fun i => (ownS m).getD i default := by
  unfold owK; exact List.map_congr_left (fun i _ => h i)
 rw [e]; rfl
theorem mdG_mdl : mdG [iI m.W, iI m.D, .slice A m.hs.length c, .slice B m.ps.length d, .slice C m.ss.length e] (owK m m.ps.length) (tp m) (pnK m m.ps.length) = mdl m A B C c d e := by
 unfold mdG mdl
 rw [List.map_append, ow_ln]
 rfl
end
theorem mdl_top' {m : Mod} {A B C : Option Addr} {c d e : Nat} {f : Int} (hf : 0 ≤ f ∧ f ≤ 63) : (mdl m A B C c d e)[0 + 11 + f.toNat * 1]? = some (iI (m.hs.getD f.toNat default)) := by
 rw [Nat.zero_add, Nat.mul_one]; exact mdl_top (by omega)
theorem mdl_pin' {m : Mod} {A B C : Option Addr} {c d e : Nat} {f : Int} (hf : 0 ≤ f ∧ f ≤ 63) : (mdl m A B C c d e)[0 + 75 + f.toNat * 1]? = some (iI (pinV (pinAt m f))) := by
 rw [Nat.zero_add, Nat.mul_one, mdl_pin (by omega), Int.toNat_of_nonneg hf.1]
theorem ln_at' {l : List Int} {i : Nat} (h : i < 6) : (ln l)[0 + ((i : Int)).toNat * 1]? = some (iI (l.getD i default)) := by
 rw [Nat.zero_add, Nat.mul_one, Int.toNat_natCast]; exact ln_at h
theorem pinV_some {m : Mod} {f : Int} (h : pinV (pinAt m f) ≠ -1) : ∃ i, pinAt m f = some i ∧ i < m.ps.length ∧ fldS m i = f := by
 cases e : pinAt m f with
 | none => rw [e] at h; exact absurd rfl h
 | some i => exact ⟨i, rfl, pinAtK_some (k := m.ps.length) e⟩
theorem pinV_none {m : Mod} {f : Int} (h : ¬ pinV (pinAt m f) ≠ -1) : pinAt m f = none := by
 cases e : pinAt m f with
 | none => rfl
 | some i =>
  rw [e] at h
  have : pinV (some i) = (i : Int) := rfl
  rw [this] at h
  omega
def LB (l : List Int) : Prop := ∀ i, 0 ≤ l.getD i default ∧ l.getD i default ≤ 300
theorem Good.lb {m : Mod} (g : Good m) : LB (ownS m) := fun i => by
 rcases Nat.lt_or_ge i m.ps.length with h | h
 ·rw [own_at h]; have := g.p i h; omega
 ·rw [own_out (by omega)]; omega
theorem Good.hb {m : Mod} (g : Good m) (i : Nat) : 0 ≤ m.hs.getD i default ∧ m.hs.getD i default ≤ 500 := by
 rcases Nat.lt_or_ge i m.hs.length with h | h
 ·exact g.h _ (K.gt_mem h)
 ·rw [List.getD_eq_getElem?_getD, List.getElem?_eq_none h]; exact ⟨by decide, by decide⟩
theorem top_bd {m : Mod} (g : Good m) {l : List Int} (hl : LB l) (f : Int) : 0 ≤ topS m l f ∧ topS m l f ≤ 800 := by
 rw [topS_eq]
 have h1 := g.hb f.toNat
 cases pinAt m f with
 | none => simp only; omega
 | some i => have := hl i; simp only; omega
theorem head_bd {m : Mod} (g : Good m) {l : List Int} (hl : LB l) (i : Nat) : 0 ≤ headS m l i ∧ headS m l i ≤ 800 := by
 unfold headS
 have h1 := g.hb ((m.ps.getD i default).y * m.W + (m.ps.getD i default).x).toNat
 have := hl i
 omega
theorem gcd_nn (a b : Int) : 0 ≤ gcdS a b := by unfold gcdS; omega
theorem gcd_le {a b : Int} {n : Nat} (ha : a.natAbs ≤ n) (hb : b.natAbs ≤ n) : gcdS a b ≤ n := by
 unfold gcdS Int.gcd
 rcases Nat.eq_zero_or_pos a.natAbs with h | h
 ·rw [h, Nat.gcd_zero_left]; omega
 ·have := Nat.gcd_le_left b.natAbs h; omega
theorem gcd_tmod (a b : Int) : gcdS b (a.tmod b) = gcdS a b := by
 unfold gcdS Int.gcd
 rw [Int.natAbs_tmod]
 rw [Nat.gcd_comm b.natAbs (a.natAbs % b.natAbs), ← Nat.gcd_rec, Nat.gcd_comm]
theorem gcd_zero (a : Int) : gcdS a 0 = max a (-a) := by
 unfold gcdS Int.gcd
 simp
 omega
theorem tmod_lt {a b : Int} (h : b ≠ 0) : (a.tmod b).natAbs < b.natAbs := by
 rw [Int.natAbs_tmod]; exact Nat.mod_lt _ (by omega)
theorem gcd_dvd_l (a b : Int) : gcdS a b ∣ a := Int.gcd_dvd_left a b
theorem gcd_dvd_r (a b : Int) : gcdS a b ∣ b := Int.gcd_dvd_right a b
theorem part_bd {a g n : Int} (hg : g ∣ a) (h1 : 1 ≤ n) (h2 : n < g) : min a 0 ≤ a / g * n ∧ a / g * n ≤ max a 0 := by
 obtain ⟨q, rfl⟩ := hg
 rw [Int.mul_ediv_cancel_left _ (by omega)]
 rcases Int.le_total 0 q with h | h
 ·have e1 : 0 ≤ q * n := Int.mul_nonneg h (by omega)
  have e2 : q * n ≤ q * g := Int.mul_le_mul_of_nonneg_left (by omega) h
  rw [Int.mul_comm g q]; omega
 ·have e1 : q * n ≤ 0 := Int.mul_nonpos_of_nonpos_of_nonneg h (by omega)
  have e2 : q * g ≤ q * n := by have := Int.mul_le_mul_of_nonneg_left (a := n) (b := g) (c := -q) (by omega) (by omega); rw [Int.neg_mul, Int.neg_mul] at this; omega
  rw [Int.mul_comm g q]; omega
end Go.Proofs.YtnhhfkgldoeifaaGreatDoor.Pn

namespace Go.Proofs.YtnhhfkgldoeifaaGreatDoor.Pn
open Go
def gS (m : Mod) (x y : Int) (i : Nat) : Int := gcdS ((m.ps.getD i default).x - x) ((m.ps.getD i default).y - y)
def st1 (m : Mod) (x y : Int) (i k : Nat) : Option (Int × Int × Int) := stepAt m x y ((m.ps.getD i default).x) ((m.ps.getD i default).y) (gS m x y i) ((k : Int) + 1)
def stK (m : Mod) (x y : Int) (i k : Nat) : List (Int × Int × Int) := (List.range k).filterMap (st1 m x y i)
theorem stepsS_eq {m : Mod} {x y : Int} {i : Nat} : stepsS m x y i = stK m x y i ((gS m x y i).toNat - 1) := rfl
section
variable {m : Mod} {x y : Int} {i k : Nat}
theorem stK_none (h : st1 m x y i k = none) : stK m x y i (k + 1) = stK m x y i k := by
 unfold stK; rw [List.range_succ, List.filterMap_append]; simp [h]
theorem stK_some {s : Int × Int × Int} (h : st1 m x y i k = some s) : stK m x y i (k + 1) = stK m x y i k ++ [s] := by
 unfold stK; rw [List.range_succ, List.filterMap_append]; simp [h]
theorem stK_at {s : Int × Int × Int} (h : st1 m x y i k = some s) : ∀ {n : Nat}, k < n → (stK m x y i n)[(stK m x y i k).length]? = some s := by
 intro n
 induction n with
 | zero => intro h1; omega
 | succ n ih =>
  intro h1
  rcases Nat.lt_or_ge k n with h2 | h2
  ·have h3 := ih h2
   have h4 : (stK m x y i k).length < (stK m x y i n).length := (List.getElem?_eq_some_iff.1 h3).1
   cases e : st1 m x y i n with
   | none => rw [stK_none e]; exact h3
   | some s' => rw [stK_some e, List.getElem?_append_left h4]; exact h3
  ·have : k = n := by omega
   subst this
   rw [stK_some h]; simp
abbrev atX (m : Mod) (x y : Int) (i k : Nat) : Int := x + ((m.ps.getD i default).x - x) / gS m x y i * ((k : Int) + 1)
abbrev atY (m : Mod) (x y : Int) (i k : Nat) : Int := y + ((m.ps.getD i default).y - y) / gS m x y i * ((k : Int) + 1)
theorem st1_some (h : onF m.W m.D (atX m x y i k) (atY m x y i k)) : st1 m x y i k = some (atY m x y i k * m.W + atX m x y i k, (k : Int) + 1, gS m x y i) := by
 unfold st1 stepAt; rw [if_pos h]
theorem st1_none (h : ¬ onF m.W m.D (atX m x y i k) (atY m x y i k)) : st1 m x y i k = none := by
 unfold st1 stepAt; rw [if_neg h]
theorem gS_x : gS m x y i ∣ (m.ps.getD i default).x - x := gcd_dvd_l _ _
theorem gS_y : gS m x y i ∣ (m.ps.getD i default).y - y := gcd_dvd_r _ _
end
structure Way (m : Mod) (x y : Int) (i : Nat) : Prop where
 g : Good m
 i : i < m.ps.length
 x : -20 ≤ x ∧ x ≤ 20
 y : -20 ≤ y ∧ y ≤ 20
section
variable {m : Mod} {x y : Int} {i : Nat}
theorem Way.p (h : Way m x y i) : (0 ≤ (m.ps.getD i default).x ∧ (m.ps.getD i default).x ≤ 7) ∧ (0 ≤ (m.ps.getD i default).y ∧ (m.ps.getD i default).y ≤ 7) ∧ (m.W ≤ 8 ∧ m.D ≤ 8 ∧ m.ps.length ≤ 6) := by
 have h1 := (h.g.p i h.i).1
 have h2 := h.g.w
 have h3 := h.g.d
 have h4 := h.g.n
 have h5 := h1.1
 have h6 := h1.2
 refine ⟨?_, ?_, h2.2, h3.2, h4⟩ <;> omega
theorem Way.gb (h : Way m x y i) : 0 ≤ gS m x y i ∧ gS m x y i ≤ 27 := by
 have h1 := h.p
 have := h.x
 have := h.y
 exact ⟨gcd_nn _ _, gcd_le (n := 27) (by omega) (by omega)⟩
theorem Way.at (h : Way m x y i) {k : Nat} (hk : (k : Int) + 1 < gS m x y i) : (-20 ≤ ((m.ps.getD i default).x - x) / gS m x y i * ((k : Int) + 1) + x ∧ ((m.ps.getD i default).x - x) / gS m x y i * ((k : Int) + 1) + x ≤ 20) ∧ (-20 ≤ ((m.ps.getD i default).y - y) / gS m x y i * ((k : Int) + 1) + y ∧ ((m.ps.getD i default).y - y) / gS m x y i * ((k : Int) + 1) + y ≤ 20) := by
 have h1 := h.p
 have h2 := h.x
 have h3 := h.y
 have h4 := part_bd (gS_x (m := m) (x := x) (y := y) (i := i)) (n := (k : Int) + 1) (by omega) hk
 have h5 := part_bd (gS_y (m := m) (x := x) (y := y) (i := i)) (n := (k : Int) + 1) (by omega) hk
 omega
theorem way_quo {a g : Int} (h : g ∣ a) : a.tdiv g = a / g := Int.tdiv_eq_ediv_of_dvd h
theorem dv_bd {a g : Int} (h : g ∣ a) (hg : 0 < g) (ha : -40 ≤ a ∧ a ≤ 40) : -40 ≤ a / g ∧ a / g ≤ 40 := by
 obtain ⟨q, rfl⟩ := h
 rw [Int.mul_ediv_cancel_left _ (by omega)]
 rcases Int.le_total 0 q with h | h
 ·have := Int.mul_le_mul_of_nonneg_right (a := 1) (b := g) (c := q) (by omega) h
  omega
 ·have := Int.mul_le_mul_of_nonneg_right (a := 1) (b := g) (c := -q) (by omega) (by omega)
  simp only [Int.mul_neg, Int.one_mul] at this
  omega
end
def hdK (m : Mod) (l : List Int) (eye x y : Int) (i k : Nat) : List Int := (((stepsS m x y i).take k).filter (hideB m l eye i)).map (·.1)
section
variable {m : Mod} {l : List Int} {eye x y : Int} {i k : Nat}
theorem hd_all : hdK m l eye x y i (stepsS m x y i).length = hidesS m l x y eye i := by unfold hdK hidesS; rw [List.take_length]
theorem hd_next {s : Int × Int × Int} (h : (stepsS m x y i)[k]? = some s) : hdK m l eye x y i (k + 1) = hdK m l eye x y i k ++ (if hideB m l eye i s = true then [s.1] else []) := by
 unfold hdK
 rw [List.take_add_one, h, List.filter_append, List.map_append]
 congr 1
 by_cases hb : hideB m l eye i s = true <;> simp [hb]
theorem hd_at {s : Int × Int × Int} (h : (stepsS m x y i)[k]? = some s) (hb : hideB m l eye i s = true) : (hidesS m l x y eye i)[(hdK m l eye x y i k).length]? = some s.1 := by
 have h1 : hidesS m l x y eye i = hdK m l eye x y i (k + 1) ++ (((stepsS m x y i).drop (k + 1)).filter (hideB m l eye i)).map (·.1) := by
  unfold hdK hidesS
  rw [← List.map_append, ← List.filter_append, List.take_append_drop]
 rw [h1, hd_next h, if_pos hb, List.append_assoc]
 simp
theorem steps_at {s : Int × Int × Int} (h : (stepsS m x y i)[k]? = some s) : ∃ j : Nat, (j : Int) + 1 < gS m x y i ∧ onF m.W m.D (atX m x y i j) (atY m x y i j) ∧ s = (atY m x y i j * m.W + atX m x y i j, (j : Int) + 1, gS m x y i) := by
 have h1 := List.mem_of_getElem? h
 rw [stepsS_eq] at h1
 obtain ⟨j, hj, hs⟩ := List.mem_filterMap.1 h1
 have hj' := List.mem_range.1 hj
 by_cases hF : onF m.W m.D (atX m x y i j) (atY m x y i j)
 ·rw [st1_some hF] at hs
  exact ⟨j, by omega, hF, by injection hs with e; exact e.symm⟩
 ·rw [st1_none hF] at hs; cases hs
theorem Way.step (h : Way m x y i) {s : Int × Int × Int} (hs : (stepsS m x y i)[k]? = some s) : (0 ≤ s.1 ∧ s.1 ≤ 63) ∧ 1 ≤ s.2.1 ∧ s.2.1 < s.2.2 ∧ s.2.2 ≤ 27 := by
 obtain ⟨j, h1, h2, rfl⟩ := steps_at hs
 have h3 := fld_bd h.g.w h.g.d h2
 have h4 := h.gb
 exact ⟨⟨h3.1, h3.2.2.1⟩, by simp only; omega, h1, h4.2⟩
end
theorem mul_bd {a b A C : Int} (ha : 0 ≤ a ∧ a ≤ A) (hb : 0 ≤ b ∧ b ≤ C) : 0 ≤ a * b ∧ a * b ≤ A * C := by
 refine ⟨Int.mul_nonneg ha.1 hb.1, ?_⟩
 exact Int.le_trans (Int.mul_le_mul_of_nonneg_right ha.2 hb.1) (Int.mul_le_mul_of_nonneg_left hb.2 (by omega))
theorem hide_bd {m : Mod} {l : List Int} {eye x y : Int} {i k : Nat} {s : Int × Int × Int} (h : Way m x y i) (hl : LB l) (he : 0 ≤ eye ∧ eye ≤ 3000) (hs : (stepsS m x y i)[k]? = some s) :
  (0 ≤ topS m l s.1 * s.2.2 ∧ topS m l s.1 * s.2.2 ≤ 21600) ∧ (0 ≤ eye * (s.2.2 - s.2.1) ∧ eye * (s.2.2 - s.2.1) ≤ 81000) ∧ (0 ≤ headS m l i * s.2.1 ∧ headS m l i * s.2.1 ≤ 21600) := by
 have h1 := h.step hs
 have h2 := mul_bd (C := 27) (top_bd h.g hl s.1) (b := s.2.2) (by omega)
 have h3 := mul_bd (C := 27) he (b := s.2.2 - s.2.1) (by omega)
 have h4 := mul_bd (C := 27) (head_bd h.g hl i) (b := s.2.1) (by omega)
 omega
def setN (p : Nat → Bool) : Nat → Int
 | 0 => 0
 | n + 1 => setN p n + if p n then 2 ^ n else 0
theorem setN_bd {p : Nat → Bool} : ∀ {n : Nat}, n ≤ 6 → 0 ≤ setN p n ∧ setN p n < 2 ^ n
 | 0, _ => ⟨Int.le_refl _, by show (0 : Int) < 1; decide⟩
 | n + 1, h => by
  have h1 := setN_bd (p := p) (n := n) (by omega)
  have h2 : (2 : Int) ^ (n + 1) = 2 ^ n + 2 ^ n := by rw [Int.pow_succ]; omega
  unfold setN
  split <;> omega
theorem or_tab : ∀ n : Fin 6, ∀ a : Fin 32, (a.val : Int) < 2 ^ n.val → IntKind.i64.wrap ((BitVec.ofInt IntKind.i64.bits (a.val : Int) ||| BitVec.ofInt IntKind.i64.bits (IntKind.i64.wrap (1 * 2 ^ min n.val IntKind.i64.bits))).toNat : Int) = (a.val : Int) + 2 ^ n.val := by decide
theorem or_bit {a : Int} {n : Nat} (hn : n < 6) (h0 : 0 ≤ a) (h : a < 2 ^ n) : IntKind.i64.wrap ((BitVec.ofInt IntKind.i64.bits a ||| BitVec.ofInt IntKind.i64.bits (IntKind.i64.wrap (1 * 2 ^ min ((n : Int)).toNat IntKind.i64.bits))).toNat : Int) = a + 2 ^ n := by
 have h5 : a < 32 := by
  have : (2 : Int) ^ n ≤ 2 ^ 5 := by
   have : n = 0 ∨ n = 1 ∨ n = 2 ∨ n = 3 ∨ n = 4 ∨ n = 5 := by omega
   rcases this with h | h | h | h | h | h <;> subst h <;> decide
  omega
 obtain ⟨b, rfl⟩ := Int.eq_ofNat_of_zero_le h0
 exact or_tab ⟨n, hn⟩ ⟨b, by omega⟩ h
def seesB (m : Mod) (l : List Int) (x y eye : Int) (i : Nat) : Bool := (hidesS m l x y eye i).isEmpty
theorem setN_yes {p : Nat → Bool} {n : Nat} (h : p n = true) : setN p (n + 1) = setN p n + 2 ^ n := by rw [setN, if_pos h]
theorem setN_no {p : Nat → Bool} {n : Nat} (h : p n = false) : setN p (n + 1) = setN p n := by rw [setN, if_neg (by simp [h]), Int.add_zero]
end Go.Proofs.YtnhhfkgldoeifaaGreatDoor.Pn

namespace Go.Proofs.YtnhhfkgldoeifaaGreatDoor.Pn
open Go
def tabZ : List Int := [0,1,56,2,57,49,28,3,61,58,42,50,38,29,17,4,62,47,59,36,45,43,51,22,53,39,33,30,24,18,12,5,63,55,48,27,60,41,37,16,46,35,44,21,52,32,23,11,54,26,40,15,34,20,31,10,25,14,19,9,13,8,7,6]
def tab64 : List Value := tabZ.map fun n => .int .u8 n
def low1 (x : Int) : Int := IntKind.u64.wrap (BitVec.ofInt IntKind.u64.bits x &&& BitVec.ofInt IntKind.u64.bits (IntKind.u64.wrap (0 - x))).toNat
def idxZ (x : Int) : Int := (IntKind.u64.wrap (low1 x * 285870213051353865)).fdiv (2 ^ min ((58 : Int)).toNat IntKind.u64.bits)
def tzS (x : Int) : Int := tabZ.getD (idxZ x).toNat 0
def andS (x : Int) : Int := IntKind.i64.wrap (BitVec.ofInt IntKind.i64.bits x &&& BitVec.ofInt IntKind.i64.bits (x - 1)).toNat
def bitsL (s : Int) : List Int := selN (fun i => s.toNat.testBit i) 6
def idxW (y : Int) : Int := (IntKind.u64.wrap (y * 285870213051353865)).fdiv (2 ^ min ((58 : Int)).toNat IntKind.u64.bits)
theorem idxW_1 : idxW 1 = 0 := by decide
theorem idxW_2 : idxW 2 = 1 := by decide
theorem idxW_4 : idxW 4 = 3 := by decide
theorem idxW_8 : idxW 8 = 7 := by decide
theorem idxW_16 : idxW 16 = 15 := by decide
theorem idxW_32 : idxW 32 = 31 := by decide
theorem low_tab : ∀ x : Fin 64, x.val ≠ 0 → low1 (x.val : Int) = 1 ∨ low1 (x.val : Int) = 2 ∨ low1 (x.val : Int) = 4 ∨ low1 (x.val : Int) = 8 ∨ low1 (x.val : Int) = 16 ∨ low1 (x.val : Int) = 32 := by decide
theorem low_at {x : Int} (h : 1 ≤ x ∧ x ≤ 63) : low1 x = 1 ∨ low1 x = 2 ∨ low1 x = 4 ∨ low1 x = 8 ∨ low1 x = 16 ∨ low1 x = 32 := by
 obtain ⟨n, rfl⟩ := Int.eq_ofNat_of_zero_le (show 0 ≤ x by omega)
 exact low_tab ⟨n, by omega⟩ (by simp only; omega)
theorem idxZ_eq (x : Int) : idxZ x = idxW (low1 x) := rfl
theorem idx_at {x : Int} (h : 1 ≤ x ∧ x ≤ 63) : (0 ≤ idxZ x ∧ idxZ x < 64) ∧ tab64[0 + (idxZ x).toNat * 1]? = some (.int .u8 (tzS x)) ∧ (0 ≤ tzS x ∧ tzS x ≤ 5) := by
 unfold tzS
 rw [idxZ_eq]
 rcases low_at h with e | e | e | e | e | e <;> rw [e]
 ·rw [idxW_1]; exact ⟨by decide, rfl, by decide⟩
 ·rw [idxW_2]; exact ⟨by decide, rfl, by decide⟩
 ·rw [idxW_4]; exact ⟨by decide, rfl, by decide⟩
 ·rw [idxW_8]; exact ⟨by decide, rfl, by decide⟩
 ·rw [idxW_16]; exact ⟨by decide, rfl, by decide⟩
 ·rw [idxW_32]; exact ⟨by decide, rfl, by decide⟩
theorem tz_of (x : Int) : tzS x = tabZ.getD (idxW (low1 x)).toNat 0 := rfl
theorem and_tab : ∀ x : Fin 64, x.val ≠ 0 → (0 ≤ andS (x.val : Int) ∧ andS (x.val : Int) < (x.val : Int)) ∧
  ((low1 (x.val : Int) = 1 ∧ bitsL (x.val : Int) = 0 :: bitsL (andS (x.val : Int))) ∨ (low1 (x.val : Int) = 2 ∧ bitsL (x.val : Int) = 1 :: bitsL (andS (x.val : Int))) ∨ (low1 (x.val : Int) = 4 ∧ bitsL (x.val : Int) = 2 :: bitsL (andS (x.val : Int))) ∨
   (low1 (x.val : Int) = 8 ∧ bitsL (x.val : Int) = 3 :: bitsL (andS (x.val : Int))) ∨ (low1 (x.val : Int) = 16 ∧ bitsL (x.val : Int) = 4 :: bitsL (andS (x.val : Int))) ∨ (low1 (x.val : Int) = 32 ∧ bitsL (x.val : Int) = 5 :: bitsL (andS (x.val : Int)))) := by decide
theorem bits_at {x : Int} (h : 1 ≤ x ∧ x ≤ 63) : (0 ≤ andS x ∧ andS x < x) ∧ bitsL x = tzS x :: bitsL (andS x) := by
 obtain ⟨n, rfl⟩ := Int.eq_ofNat_of_zero_le (show 0 ≤ x by omega)
 obtain ⟨h1, h2⟩ := and_tab ⟨n, by omega⟩ (by simp only; omega)
 refine ⟨h1, ?_⟩
 rw [tz_of]
 rcases h2 with ⟨e, h3⟩ | ⟨e, h3⟩ | ⟨e, h3⟩ | ⟨e, h3⟩ | ⟨e, h3⟩ | ⟨e, h3⟩ <;> simp only at e h3 <;> rw [e]
 ·rw [idxW_1]; exact h3
 ·rw [idxW_2]; exact h3
 ·rw [idxW_4]; exact h3
 ·rw [idxW_8]; exact h3
 ·rw [idxW_16]; exact h3
 ·rw [idxW_32]; exact h3
theorem bits_0 : bitsL 0 = [] := by decide
theorem bits_len {x : Int} : (bitsL x).length ≤ 6 := selN_len
theorem setN_6 : ∀ b0 b1 b2 b3 b4 b5 : Bool, bitsL ((((((0 + if b0 then 2 ^ 0 else 0) + if b1 then 2 ^ 1 else 0) + if b2 then 2 ^ 2 else 0) + if b3 then 2 ^ 3 else 0) + if b4 then 2 ^ 4 else 0) + if b5 then 2 ^ 5 else 0) = ((((([] ++ if b0 then [((0 : Nat) : Int)] else []) ++ if b1 then [((1 : Nat) : Int)] else []) ++ if b2 then [((2 : Nat) : Int)] else []) ++ if b3 then [((3 : Nat) : Int)] else []) ++ if b4 then [((4 : Nat) : Int)] else []) ++ if b5 then [((5 : Nat) : Int)] else [] := by decide
theorem setN_congr {p q : Nat → Bool} : ∀ {n : Nat}, (∀ i, i < n → p i = q i) → setN p n = setN q n
 | 0, _ => rfl
 | n + 1, h => by rw [setN, setN, setN_congr (fun i hi => h i (by omega)), h n (by omega)]
theorem selN_congr {p q : Nat → Bool} {n : Nat} (h : ∀ i, i < n → p i = q i) : selN p n = selN q n := by
 unfold selN
 congr 1
 exact List.filter_congr (fun i hi => h i (List.mem_range.1 hi))
theorem setN_cut {p : Nat → Bool} {n : Nat} : ∀ {k : Nat}, n ≤ k → setN (fun i => p i && decide (i < n)) k = setN p n
 | 0, h => by
  have : n = 0 := by omega
  subst this; rfl
 | k + 1, h => by
  rcases Nat.lt_or_ge n (k + 1) with h1 | h1
  ·rw [setN, setN_cut (by omega), decide_eq_false (by omega), Bool.and_false, if_neg (by simp), Int.add_zero]
  ·have : n = k + 1 := by omega
   subst this
   exact setN_congr (fun i hi => by rw [decide_eq_true hi, Bool.and_true])
theorem selN_cut {p : Nat → Bool} {n k : Nat} (h : n ≤ k) : selN (fun i => p i && decide (i < n)) k = selN p n := by
 induction k with
 | zero =>
  have : n = 0 := by omega
  subst this; rfl
 | succ k ih =>
  rcases Nat.lt_or_ge n (k + 1) with h1 | h1
  ·rw [selN_succ, ih (by omega), decide_eq_false (by omega), Bool.and_false]; simp
  ·have : n = k + 1 := by omega
   subst this
   exact selN_congr (fun i hi => by rw [decide_eq_true hi, Bool.and_true])
theorem bits_set6 (q : Nat → Bool) : bitsL (setN q 6) = selN q 6 := by
 have h := setN_6 (q 0) (q 1) (q 2) (q 3) (q 4) (q 5)
 have e : selN q 6 = ((((([] ++ if q 0 then [((0 : Nat) : Int)] else []) ++ if q 1 then [((1 : Nat) : Int)] else []) ++ if q 2 then [((2 : Nat) : Int)] else []) ++ if q 3 then [((3 : Nat) : Int)] else []) ++ if q 4 then [((4 : Nat) : Int)] else []) ++ if q 5 then [((5 : Nat) : Int)] else [] := by
  rw [selN_succ, selN_succ, selN_succ, selN_succ, selN_succ, selN_succ]; rfl
 rw [e, ← h]
 rfl
theorem bits_set {p : Nat → Bool} {n : Nat} (h : n ≤ 6) : bitsL (setN p n) = selN p n := by
 rw [← setN_cut (p := p) h, ← selN_cut (p := p) h, bits_set6]
theorem setN_63 {p : Nat → Bool} {n : Nat} (h : n ≤ 6) : 0 ≤ setN p n ∧ setN p n ≤ 63 := by
 have h1 := setN_bd (p := p) h
 have h2 : (2 : Int) ^ n ≤ 64 := by
  have : n = 0 ∨ n = 1 ∨ n = 2 ∨ n = 3 ∨ n = 4 ∨ n = 5 ∨ n = 6 := by omega
  rcases this with h | h | h | h | h | h | h <;> subst h <;> decide
 omega
end Go.Proofs.YtnhhfkgldoeifaaGreatDoor.Pn

namespace Go.Proofs.YtnhhfkgldoeifaaGreatDoor.Pn
open Go
def asE (m : Mod) (s p : Int) : Int := if ¬ ((0 ≤ s ∧ s ≤ (m.ss.length : Int) - 1) ∧ (0 ≤ p ∧ p ≤ (m.ps.length : Int) - 1)) then 4 else 0
def askE (m : Mod) (s p : Int) : Int := if (chk m).2.2 ≠ 0 then (chk m).2.2 else asE m s p
def hidE (m : Mod) (s eye p : Int) : Int := if askE m s p ≠ 0 then askE m s p else if ¬ (0 ≤ eye ∧ eye ≤ 2000) then 7 else 0
def hidL (m : Mod) (s eye p : Int) : List Int := if hidE m s eye p = 0 then hidesS m (ownS m) (m.ss.getD s.toNat default).x (m.ss.getD s.toNat default).y eye p.toNat else []
def seenE (m : Mod) (s : Int) : Int := if (chk m).2.2 ≠ 0 then (chk m).2.2 else if ¬ (0 ≤ s ∧ s ≤ (m.ss.length : Int) - 1) then 4 else 0
def seenL (m : Mod) (l : List Int) (s : Nat) (eye : Int) : List Int := selN (seesB m l (m.ss.getD s default).x (m.ss.getD s default).y eye) m.ps.length
theorem chk_e0 {m : Mod} (h : (chk m).2.2 = 0) : chk m = (0, 0, 0) := by
 obtain ⟨h1, h2, h3, h4, h5, h6, h7⟩ := chk_part.1 h
 exact chk_0 h1 h2 h3 h4 h5 h6 h7
theorem Good.st {m : Mod} (g : Good m) {s : Nat} (h : s < m.ss.length) : ((-20 ≤ (m.ss.getD s default).x ∧ (m.ss.getD s default).x ≤ 20) ∧ (-20 ≤ (m.ss.getD s default).y ∧ (m.ss.getD s default).y ≤ 20)) ∧ (0 ≤ (m.ss.getD s default).lo ∧ (m.ss.getD s default).lo ≤ (m.ss.getD s default).hi ∧ (m.ss.getD s default).hi ≤ 2000) ∧ ¬ onF m.W m.D (m.ss.getD s default).x (m.ss.getD s default).y := g.s _ (K.gt_mem h)
theorem hides_len {m : Mod} {l : List Int} {x y eye : Int} {i : Nat} (h : Way m x y i) : (hidesS m l x y eye i).length ≤ 27 := by
 unfold hidesS
 rw [List.length_map]
 refine Nat.le_trans (List.length_filter_le _ _) ?_
 rw [stepsS_eq]
 unfold stK
 refine Nat.le_trans (List.length_filterMap_le _ _) ?_
 have := h.gb
 simp; omega
section
variable {m : Mod} {l : List Int} {eye x y : Int} {i k : Nat}
theorem hid_0 {s eye p : Int} (h1 : askE m s p = 0) (h2 : 0 ≤ eye ∧ eye ≤ 2000) : hidE m s eye p = 0 := by unfold hidE; rw [if_neg (by omega), if_neg (by omega)]
theorem hid_7 {s eye p : Int} (h1 : askE m s p = 0) (h2 : ¬ (0 ≤ eye ∧ eye ≤ 2000)) : hidE m s eye p = 7 := by unfold hidE; rw [if_neg (by omega), if_pos h2]
theorem hid_a {s eye p : Int} (h1 : askE m s p ≠ 0) : hidE m s eye p = askE m s p := by unfold hidE; rw [if_pos h1]
theorem hidL_e {s eye p : Int} (h : hidE m s eye p ≠ 0) : hidL m s eye p = [] := by unfold hidL; rw [if_neg h]
theorem hidL_0 {s p : Nat} {eye : Int} (h : hidE m s eye p = 0) : hidL m s eye p = hidesS m (ownS m) (m.ss.getD s default).x (m.ss.getD s default).y eye p := by unfold hidL; rw [if_pos h]; rfl
end
end Go.Proofs.YtnhhfkgldoeifaaGreatDoor.Pn
end
section
namespace Go.Proofs.YtnhhfkgldoeifaaGreatDoor.Pn
open Go
theorem zY {A B : Prop} (k : A) (e : B = A := by first | (dsimp only [K.setd, K.setn, K.ev, K.nth, K.over, K.cl, K.eI, K.eP, K.eT, eN, eS, K.setM, K.setF, List.map, List.append, List.drop, List.take] <;> rfl) | rfl) : B := e ▸ k
theorem zR {A B : Prop} (k : A) (e : B = A := by first | (dsimp only [List.replicate, List.cons_append, List.nil_append] <;> rfl) | rfl) : B := e ▸ k
section
open Go.RowKit
variable {P : Program} {w0 : World} {L L' : List K.Chunk} {Q : Exit → Act → World → Prop} {l : List Value} {ops : Array Oper} {rest : List Oper} {o : Oper} {v : Value} {d : Option Tmp} {ty : TypeId} {ps : String} {af : Array Edge} {g : Option (Nat × Bool)} {A : Prop} {x : Operand} {id i : Nat}
theorem et {R : Ending → World → Prop} {fn : Func} (k : K.Hold w0 L (R (.returned v))) (hr : ∀ w, K.St w0 L w → (results fn l.toArray).run P w = .ok v w := by exact fun w _ => K.res_tmp rfl w) : K.Hold w0 L (bodyPost P fn R .ret (K.fr l)) := K.wA hr k
theorem ql (h : K.Sil P w0 L o l v) (k : A) (hg : K.wantL ops.toList l o.guard = true := by exact rfl) (e : K.Hold w0 L (wpList P ops Q rest (K.fr (K.setd l o.dst v))) = A := by first | (dsimp only [K.setd, K.setn, K.ev, K.nth, K.over, K.cl, K.eI, K.eP, K.eT, eN, eS, List.map, List.append, List.drop, List.take] <;> rfl) | rfl) : K.Hold w0 L (wpList P ops Q (o :: rest) (K.fr l)) := K.seq_sil h hg (e ▸ k)
theorem qc (h : K.Loud P w0 L o l (fun _ : Unit => True) (fun _ => v) (fun _ => [])) (k : A) (hg : K.wantL ops.toList l o.guard = true := by exact rfl) (e : K.Hold w0 L (wpList P ops Q rest (K.fr (K.setd l o.dst v))) = A := by first | (dsimp only [K.setd, K.setn, K.ev, K.nth, K.over, K.cl, K.eI, K.eP, K.eT, eN, eS, List.map, List.append, List.drop, List.take] <;> rfl) | rfl) : K.Hold w0 L (wpList P ops Q (o :: rest) (K.fr l)) := K.seq_call h hg (e ▸ k)
theorem qt (h : K.Upd P w0 L o l (fun _ : Unit => True) (fun _ => undef) (fun _ => L')) (k : A) (hg : K.wantL ops.toList l o.guard = true := by exact rfl) (e : K.Hold w0 L' (wpList P ops Q rest (K.fr (K.setd l o.dst undef))) = A := by first | (dsimp only [K.setd, K.setn, K.ev, K.nth, K.over, K.cl, K.eI, K.eP, K.eT, eN, eS, List.map, List.append, List.drop, List.take] <;> rfl) | rfl) : K.Hold w0 L (wpList P ops Q (o :: rest) (K.fr l)) := K.seq_st h hg (e ▸ k)
theorem qn {val : Nat → Value} {D : Nat → List K.Chunk} {A : Nat → Prop} (h : K.Loud P w0 L o l (fun _ : Nat => True) val D) (k : ∀ b, A b) (hg : K.wantL ops.toList l o.guard = true := by exact rfl) (e : ∀ b, K.Hold w0 (D b ++ L) (wpList P ops Q rest (K.fr (K.setd l o.dst (val b)))) = A b := by intro b; first | (dsimp only [K.setd, K.setn, K.ev, K.nth, K.over, K.cl, K.eI, K.eP, K.eT, eN, eS, List.map, List.append, List.drop, List.take] <;> rfl) | rfl) : K.Hold w0 L (wpList P ops Q (o :: rest) (K.fr l)) := K.seq_new h hg fun b => e b ▸ k b
variable {C : List K.Chunk} {bl : List Nat} {fuel : Nat} {listed : Array Bool}
theorem dp (i : Nat) (ho : K.nthP ops.toList i = some o) (h : K.Pure P o l v) (k : A) (ht : K.takeB ops listed i = true := by kernel_rfl) (hg : K.wantL ops.toList l o.guard = true := by exact rfl) (e : K.DHold P w0 ops Q C bl fuel (listed.setIfInBounds i true) (K.setd l o.dst v) L = A := by first | (dsimp only [K.setd, K.setn, K.ev, K.nth] <;> rfl) | rfl) : K.DHold P w0 ops Q C bl (fuel + 1) listed l L := K.d_pure i ho h ht hg (e ▸ k)
theorem dm (i : Nat) (ho : K.nthP ops.toList i = some o) (h : K.Sil P w0 C o l v) (k : A) (hA : ∀ c ∈ C, c ∈ L := by exact fun _ h => h) (ht : K.takeB ops listed i = true := by kernel_rfl) (hb : K.waitB ops bl listed i = true := by kernel_rfl) (hg : K.wantL ops.toList l o.guard = true := by exact rfl) (e : K.DHold P w0 ops Q C bl fuel (listed.setIfInBounds i true) (K.setd l o.dst v) L = A := by first | (dsimp only [K.setd, K.setn, K.ev, K.nth, K.over, K.cl, K.eI, K.eP, K.eT, eN, eS, List.map, List.append, List.drop, List.take] <;> rfl) | rfl) : K.DHold P w0 ops Q C bl (fuel + 1) listed l L := K.aC i ho h hA ht hb hg (e ▸ k)
theorem dd (k : K.Hold w0 L (Q .normal (K.fr l))) (hr : Region.ready .any ops listed = [] := by kernel_rfl) : K.DHold P w0 ops Q C bl fuel listed l L := K.d_done hr k
end
end Go.Proofs.YtnhhfkgldoeifaaGreatDoor.Pn
end
section
namespace Go.Kq
theorem pz {α : Type _} {a b : α} {l l' : List α} (h : (b :: l).Perm l') : (b :: a :: l).Perm (a :: l') := List.Perm.trans (List.perm_middle (l₁ := [b])) (List.Perm.cons a h)
theorem sc {α : Type _} {a : α} {l l' : List α} (h : l.Sublist l') : (a :: l).Sublist (a :: l') := List.Sublist.cons_cons a h
theorem s1 {α : Type _} {a : α} {l l' : List α} (h : l.Sublist l') : l.Sublist (a :: l') := List.Sublist.cons a h
theorem s0 {α : Type _} {l : List α} : l.Sublist l := List.Sublist.refl l
theorem p0 {α : Type _} {l : List α} : l.Perm l := List.Perm.refl l
theorem oF {p : Prop} [inst : Decidable p] (h : decide p = false) : ¬ p := of_decide_eq_false h
theorem oT {p : Prop} [inst : Decidable p] (h : decide p = true) : p := of_decide_eq_true h
end Go.Kq
end
section
namespace Go.R
open Go.RowKit Go.K
def Stays (B : Nat) (J : Nat → (Nat → Prop) → World → Prop) : Prop := ∀ k f w w', J k f w → Below B w w' → (∀ i, f i → w'.heap[i]? = w.heap[i]?) → J k f w'
theorem Stays.below {B : Nat} {J : Nat → (Nat → Prop) → World → Prop} (h : Stays B J) {k : Nat} {f : Nat → Prop} {w w' : World} (hJ : J k f w) (hf : ∀ i, f i → i < w.heap.size) (hB : B ≤ w.heap.size) (hb : Below w.heap.size w w') : J k f w' :=
 h k f w w' hJ (hb.mono hB) (fun i hi => hb.block i (hf i hi))
def IterC {α : Type} (P : Program) (g : FuncId) (first cap : List Value) (pre : (Nat → Prop) → World → Prop) (enc : α → Value) (XS : List α) : Prop :=
 ∀ (lr B : Nat) (J Jx : Nat → (Nat → Prop) → World → Prop) (f : Nat → Prop) (w : World), B ≤ w.heap.size → Stays B J → Stays B Jx → (∀ i, f i → i < w.heap.size) → RoundOK P lr enc XS J Jx → J 0 f w → pre f w →
  Calls P g (first ++ [Value.func (.yield lr) #[] #[]] ++ cap).toArray w fun e w' => (∃ v, e = .returned v) ∧ ((∃ f', J XS.length f' w') ∨ (∃ k f', k ≤ XS.length ∧ Jx k f' w'))
theorem fix_expand {w0 W w : World} {L L3 F : List Chunk} {rd rb : Chunk} (hF : ∀ c ∈ F, ∃ b t cs, c = blk b t cs) (hfoot : ∀ k, rb.foot k ↔ rd.foot k) (hW : St w0 (L ++ (F ++ [rd])) W) (hst : St w0 (L3 ++ [both rb (oth w0.heap.size (L ++ [rd]) W)]) w) : St w0 (L3 ++ (F ++ [rb])) w := by
 have h3 := st_front hst
 have hp := List.pairwise_append.1 hW.2.2
 have hpF := List.pairwise_append.1 hp.2.1
 have hin : ∀ c ∈ F, ∀ k, c.foot k → (oth w0.heap.size (L ++ [rd]) W).foot k := fun c hc k hk => by
  refine ⟨(hW.2.1 c (by simp [hc])).2 k hk, hW.lt (c := c) (by simp [hc]) hk, ?_⟩
  rintro ⟨d, hd, hdk⟩
  rcases List.mem_append.1 hd with hd | hd
  ·exact hp.2.2 d hd c (by simp [hc]) k hdk hk
  ·exact hpF.2.2 c hc d hd k hk hdk
 refine ⟨h3.1.1, fun c hc => ?_, ?_⟩
 ·rcases List.mem_append.1 hc with hc | hc
  ·exact h3.1.2.1 c hc
  rcases List.mem_append.1 hc with hc | hc
  ·obtain ⟨b, t, cs, rfl⟩ := hF c hc
   have h1 := hW.2.1 (blk b t cs) (by simp [hc])
   have h2 := hin _ hc b rfl
   refine ⟨?_, h1.2⟩
   show w.heap[b]? = _
   rw [h3.2.1.2 b h2.1 h2.2.1 h2.2.2]
   exact h1.1
  ·simp at hc; subst hc
   exact ⟨h3.2.1.1, fun k hk => h3.2.2.1 k (.inl hk)⟩
 ·refine List.pairwise_append.2 ⟨h3.1.2.2, List.pairwise_append.2 ⟨hpF.1, by simp, fun c hc d hd k hk hk' => ?_⟩, fun c hc d hd k hk hk' => ?_⟩
  ·simp at hd; subst hd
   exact hpF.2.2 c hc rd (by simp) k hk ((hfoot k).1 hk')
  ·rcases List.mem_append.1 hd with hd | hd
   ·exact h3.2.2.2 c hc k hk (.inr (hin d hd k hk'))
   ·simp at hd; subst hd
    exact h3.2.2.2 c hc k hk (.inl hk')
theorem fix_in {w0 W : World} {L F : List Chunk} {rd : Chunk} (hW : St w0 (L ++ (F ++ [rd])) W) : St w0 (L ++ [both rd (oth w0.heap.size (L ++ [rd]) W)]) W := by
 have h1 : St w0 (L ++ [rd]) W := hW.sub (List.Sublist.append (List.Sublist.refl _) (List.sublist_append_right _ _))
 have hf := st_front h1
 refine st_snoc hf.1 ⟨hf.2.1, fun _ _ _ _ => rfl⟩ (fun i hi => ?_) (fun c hc i hi hi' => ?_)
 ·rcases hi with hi | hi
  ·exact hf.2.2.1 i hi
  ·exact hi.1
 ·rcases hi' with hi' | hi'
  ·exact hf.2.2.2 c hc i hi hi'
  ·exact hi'.2.2 ⟨c, by simp [hc], hi⟩
theorem fix_ptr {w0 W : World} {L F : List Chunk} {rd rb : Chunk} (hW : St w0 (L ++ (F ++ [rd])) W) {b : Nat} {t : TypeId} {cs : List Value} (hm : blk b t cs ∈ F) : PtrL w0 [both rb (oth w0.heap.size (L ++ [rd]) W)] ⟨b, 0, none⟩ cs := fun Fr w hFr hw j u hu => by
 have hp := List.pairwise_append.1 hW.2.2
 have hpF := List.pairwise_append.1 hp.2.1
 have h1 := hW.2.1 (blk b t cs) (by simp [hm])
 have h2 := (hw.2.1 (both rb (oth w0.heap.size (L ++ [rd]) W)) (hFr _ (by simp))).1.2
 have h3 : w.heap[b]? = some (.cells cs.toArray t (0, 0)) := by
  rw [h2 b (h1.2 b rfl) (hW.lt (c := blk b t cs) (by simp [hm]) rfl) ?_]
  ·exact h1.1
  ·rintro ⟨d, hd, hdk⟩
   rcases List.mem_append.1 hd with hd | hd
   ·exact hp.2.2 d hd (blk b t cs) (by simp [hm]) b hdk rfl
   ·exact hpF.2.2 (blk b t cs) hm d hd b rfl hdk
 rw [add_lit, Nat.zero_add, blk_cell (t := t) (cs := cs) (show (blk b t cs).holds w from h3)]
 exact hu
def Free (w0 : World) (F : List Chunk) (f : Nat → Prop) (w : World) : Prop := St w0 F w ∧ (∀ c ∈ F, ∀ i, c.foot i → ¬ f i) ∧ ∀ i, i < w0.heap.size → ¬ f i
theorem Free.own1 {w0 w : World} {F : List Chunk} {f : Nat → Prop} (h : Free w0 F f w) {b : Nat} {t : TypeId} {cs : List Value} (hm : blk b t cs ∈ F) : Own1 f w ⟨b, 0, none⟩ cs :=
 ⟨h.1.lt hm rfl, h.2.1 _ hm b rfl, fun j u hu => by rw [add_lit, Nat.zero_add]; exact cell_now h.1 hm hu⟩
theorem Free.old1 {w0 w : World} {F : List Chunk} {f : Nat → Prop} (h : Free w0 F f w) {p : Addr} {us : List Value} (hp : PtrL w0 [] p us) (hb : p.block < w0.heap.size) : Own1 f w p us :=
 ⟨Nat.lt_of_lt_of_le hb h.1.1.size, h.2.2 _ hb, hp F w (by simp) h.1⟩
def BodyC (P : Program) (w0 : World) (F : List Chunk) (JL : Nat → List Chunk → Prop) (JX : Code → List Chunk → Prop) (k lr : Nat) (body : Code) (E1 : Chunk) : Act → World → Prop :=
 fun a w => ∃ l2 L2, a = frd [] l2 ∧ St w0 (L2 ++ [E1]) w ∧ ∀ E, (∀ b t cs, blk b t cs ∈ F → PtrL w0 [E] ⟨b, 0, none⟩ cs) → Hold w0 (L2 ++ [E]) (body.wpIn (fen (some lr)) 0 P (RP w0 JL JX k E) (frd [] l2))
theorem bodyC' {P : Program} {w0 : World} {F : List Chunk} {JL : Nat → List Chunk → Prop} {JX : Code → List Chunk → Prop} {k lr : Nat} {c : Code} {E1 : Chunk} {l2 : List Value} {L : List Chunk} (hL : L = L.dropLast ++ [E1])
  (h : ∀ E, (∀ b t cs, blk b t cs ∈ F → PtrL w0 [E] ⟨b, 0, none⟩ cs) → Hold w0 (L.dropLast ++ [E]) (c.wpIn (fen (some lr)) 0 P (RP w0 JL JX k E) (frd [] l2))) : Hold w0 L (BodyC P w0 F JL JX k lr c E1 (frd [] l2)) := by
 rw [hL]; exact fun w hw => ⟨l2, L.dropLast, rfl, hw, h⟩
theorem own_later {w0 w : World} {F : List Chunk} {b : Nat} {t : TypeId} {cs : List Value} (hw : St w0 F w) (hm : blk b t cs ∈ F) {f : Nat → Prop} {w' : World} (hb : Below w.heap.size w w') (hf : ∀ i, i < w.heap.size → ¬ f i) : Own1 f w' ⟨b, 0, none⟩ cs :=
 ⟨Nat.lt_of_lt_of_le (hw.lt hm rfl) hb.size, hf b (hw.lt hm rfl), fun j u hu => by rw [add_lit, Nat.zero_add]; exact K.cell_later hw hm hu hb⟩
theorem rangeC {α : Type} {P : Program} {w0 : World} {L : List Chunk} {Q : Exit → Act → World → Prop} {l : List Value} {g : Operand} {p : Tmp} {assign body : Code} {gf : FuncId} {first cap : List Value} {pre : (Nat → Prop) → World → Prop} {enc : α → Value} {XS : List α} {n : Nat} {D : List Deferred}
  (hg : ev l g = .func (.func gf) first.toArray cap.toArray) (hcal : callable P gf = true) (Lm F : List Chunk) (hsp : ∀ w, St w0 L w → St w0 (Lm ++ F) w) (hF : ∀ c ∈ F, ∃ b t cs, c = blk b t cs) (hit : IterC P gf first cap pre enc XS) (hpre : ∀ f w, Free w0 F f w → pre f w)
  (JL : Nat → List Chunk → Prop) (JX : Code → List Chunk → Prop) (h0 : JL 0 Lm)
  (round : ∀ k x L' lr E, XS[k]? = some x → (∀ b t cs, blk b t cs ∈ F → PtrL w0 [E] ⟨b, 0, none⟩ cs) → JL k L' → Hold w0 (L' ++ [E]) (assign.wpIn (fen (some lr)) 0 P (Exit.then (BodyC P w0 F JL JX k lr body E) (fun _ _ _ => False)) (frd [] (setn l p (enc x)))))
  (done : ∀ b L', JL XS.length L' → Hold w0 (L' ++ (F ++ [dfr b])) (Q .normal (frd (mark b :: D) l)))
  (stop : ∀ b c L', JX c L' → Hold w0 (L' ++ (F ++ [dfr b])) (c.wpIn (fen none) n P Q (frd (mark b :: D) l))) :
  Hold w0 L ((Code.rangeFunc g #[p] assign body).wpIn (fen none) n P Q (frd D l)) := by
 intro w hw0
 have hw := hsp w hw0
 refine wpIn_rangeFunc ?_
 intro fn hfn
 obtain ⟨rc, hrc⟩ : ∃ rc : LoopState → Option Code → Loop, rc = fun st pe => { state := st, pending := pe, fn, tmps := l.toArray, params := #[p], assign, body, defers := w.heap.size } := ⟨_, rfl⟩
 obtain ⟨W1, hW1⟩ : ∃ W1, (w.alloc (.deferred (some []))).alloc (.loop (rc .ready none)) = W1 := ⟨_, rfl⟩
 obtain ⟨rd, hrd⟩ : ∃ rd : Chunk, rd = both (obj (w.heap.size + 1) (.loop (rc .ready none))) (dfr w.heap.size) := ⟨_, rfl⟩
 have hst1' : St w0 ((Lm ++ F) ++ [rd]) W1 := by
  have hb1 : Below w.heap.size w W1 := by
   rw [← hW1]; exact ((Below.refl _ w).alloc (Nat.le_refl _) _).alloc (by simp) _
  refine st_snoc (st_below hw hb1) ?_ (fun k hk => ?_) (fun c hc k hk hk' => ?_)
  ·subst hrd
   refine ⟨?_, ?_⟩
   ·show W1.heap[w.heap.size + 1]? = _
    rw [← hW1]; have := World.alloc_heap_new (w.alloc (.deferred (some []))) (.loop (rc .ready none)); rwa [World.size_alloc] at this
   ·show W1.heap[w.heap.size]? = _
    rw [← hW1]; exact (Below.heap_alloc _ _ _ (by simp)).trans (World.alloc_heap_new w _)
  ·subst hrd
   have := hw.1.size
   rcases hk with hk | hk
   ·have : k = w.heap.size + 1 := hk
    omega
   ·have : k = w.heap.size := hk
    omega
  ·subst hrd
   have := hw.lt hc hk
   rcases hk' with hk' | hk'
   ·have : k = w.heap.size + 1 := hk'
    omega
   ·have : k = w.heap.size := hk'
    omega
 have hst1 : St w0 (Lm ++ (F ++ [rd])) W1 := by rw [← List.append_assoc]; exact hst1'
 have hsub : ∀ {L' : List Chunk} {x : Chunk} {W : World}, St w0 (L' ++ (F ++ [x])) W → St w0 (L' ++ [x]) W := fun h => h.sub (List.Sublist.append (List.Sublist.refl _) (List.sublist_append_right _ _))
 have hfree : ∀ {L' : List Chunk} {W : World}, St w0 (L' ++ (F ++ [rd])) W → Free w0 F (foots (L' ++ [rd])) W := fun {L'} {W} h => by
  have hp := List.pairwise_append.1 h.2.2
  have hpF := List.pairwise_append.1 hp.2.1
  refine ⟨h.sub ((List.sublist_append_left F [rd]).trans (List.sublist_append_right _ _)), fun c hc i hi => ?_, fun i hi => ?_⟩
  ·rintro ⟨d, hd, hdi⟩
   rcases List.mem_append.1 hd with hd | hd
   ·exact hp.2.2 d hd c (by simp [hc]) i hdi hi
   ·exact hpF.2.2 c hc d hd i hi hdi
  ·rintro ⟨d, hd, hdi⟩
   have := ((hsub h).2.1 d hd).2 i hdi
   omega
 have hFW : ∀ c ∈ F, ∀ i, c.foot i → i < W1.heap.size := fun c hc i hi => hst1.lt (c := c) (by simp [hc]) hi
 refine ⟨w.heap.size + 1, [mark w.heap.size], W1, { target := .fn (.func gf) cap.toArray, args := first.toArray ++ #[Value.func (.yield (w.heap.size + 1)) #[] #[]] }, W1, gf,
  (first ++ [Value.func (.yield (w.heap.size + 1)) #[] #[]] ++ cap).toArray, W1, ?_, ?_, fun _ _ => trivial, ?_, fun h => (by cases h), ?_⟩
 ·rw [← hW1, hrc]; exact run_enterLoop_outer _ _ _ _ _
 ·have he : (frd D l).eval g = .func (.func gf) first.toArray cap.toArray := by rw [frd_eval]; exact hg
  simp only [resolve, he]
  simp [go_sem]
 ·simp [invoke, go_sem, run_call hcal]
 ·refine calls_fen ((hit (w.heap.size + 1) W1.heap.size
   (fun k f W => ∃ L', JL k L' ∧ St w0 (L' ++ (F ++ [rd])) W ∧ f = foots (L' ++ [rd]))
   (fun k f W => ∃ c L', JX c L' ∧ St w0 (L' ++ (F ++ [both (obj (w.heap.size + 1) (.loop (rc .done (some c)))) (dfr w.heap.size)])) W ∧ f = foots (L' ++ [rd]))
   (foots (Lm ++ [rd])) W1 (Nat.le_refl _) ?_ ?_ ?_ ?_ ⟨Lm, h0, hst1, rfl⟩ (hpre _ _ (hfree hst1))).mono ?_)
  ·rintro k f W W' ⟨L', h1, h2, rfl⟩ hb hs
   refine ⟨L', h1, h2.keep (hb.mono hst1.1.size) (fun c hc i hi => ?_), rfl⟩
   rcases List.mem_append.1 hc with hc | hc
   ·exact hs i ⟨c, by simp [hc], hi⟩
   rcases List.mem_append.1 hc with hc | hc
   ·exact hb.block i (hFW c hc i hi)
   ·exact hs i ⟨c, by simp [List.mem_singleton.1 hc], hi⟩
  ·rintro k f W W' ⟨c0, L', h1, h2, rfl⟩ hb hs
   refine ⟨c0, L', h1, h2.keep (hb.mono hst1.1.size) (fun c hc i hi => ?_), rfl⟩
   rcases List.mem_append.1 hc with hc | hc
   ·exact hs i ⟨c, by simp [hc], hi⟩
   rcases List.mem_append.1 hc with hc | hc
   ·exact hb.block i (hFW c hc i hi)
   ·refine hs i ⟨rd, by simp, ?_⟩
    have := List.mem_singleton.1 hc
    subst this; subst hrd; exact hi
  ·rintro i ⟨c, hc, hi⟩
   exact (hsub hst1).lt hc hi
  ·-- one round
   rintro k x f W hx ⟨L', hJ, hstF, rfl⟩
   have hst := hsub hstF
   have hl : W.heap[w.heap.size + 1]? = some (.loop (rc .ready none)) := by
    have := (st_front hst).2.1
    subst hrd; exact this.1
   have hy := run_yield (P := P) (args := #[enc x]) hl (by rw [hrc]; rfl)
   have hy' : (Instr.yield (w.heap.size + 1) #[enc x]).run P W = .ok (.round (w.heap.size + 1) fn (setn l p (enc x)).toArray assign body) W := by
    rw [hy, hrc]
    congr 2
    simp [setn_eq]
   refine ⟨fn, _, assign, body, hy', roundIn_of_wpIn trivial ?_⟩
   obtain ⟨ot, hot⟩ : ∃ ot : Chunk, ot = oth w0.heap.size (L' ++ [rd]) W := ⟨_, rfl⟩
   have hf := st_front hst
   have hE1 : St w0 (L' ++ [both rd ot]) W := by subst hot; exact fix_in hstF
   refine wide_seq (r := some (w.heap.size + 1)) (round k x L' (w.heap.size + 1) (both rd ot) hx (fun b t cs hm => by subst hot; exact fix_ptr hstF hm) hJ W hE1) ?_
   rintro e a1 w1 hp
   cases e with
   | normal =>
    obtain ⟨l2, L2, rfl, hst2, hbody⟩ := hp
    have hf2 := st_front hst2
    have hl2 : w1.heap[w.heap.size + 1]? = some (.loop (rc .ready none)) := by
     have h1 := hf2.2.1.1
     subst hrd; exact h1.1
    have hd2 : w1.heap[w.heap.size]? = some (.deferred (some [])) := by
     have h1 := hf2.2.1.1
     subst hrd; exact h1.2
    refine ⟨_, run_beginRound hl2 (by rw [hrc]), ?_⟩
    obtain ⟨rb, hrb⟩ : ∃ rb : Chunk, rb = both (obj (w.heap.size + 1) (.loop (rc .busy none))) (dfr w.heap.size) := ⟨_, rfl⟩
    have hlt : ∀ {W : World} {o : Obj}, W.heap[w.heap.size + 1]? = some o → w.heap.size + 1 < W.heap.size := fun h => lt_of_some h
    have hfoot : ∀ k, rb.foot k ↔ rd.foot k := fun k => by subst hrb; subst hrd; exact Iff.rfl
    have hrdl : rd.foot (w.heap.size + 1) := by subst hrd; exact .inl rfl
    have hrdd : rd.foot w.heap.size := by subst hrd; exact .inr rfl
    have hotn : ∀ {W' : World} {o : Obj}, ot.holds W' → ot.holds (W'.putObj (w.heap.size + 1) o) := fun h => by
     refine ot.loc _ _ h (fun k hk => World.putObj_heap_other (fun e => ?_))
     subst hot; subst e
     exact hk.2.2 ⟨rd, by simp, hrdl⟩
    have hst3 : St w0 (L2 ++ [both rb ot]) (w1.putObj (w.heap.size + 1) (.loop (rc .busy none))) := by
     refine st_put hst2 (.inl hrdl) ⟨?_, hotn hf2.2.1.2⟩ (fun k hk => ?_)
     ·subst hrb
      exact ⟨World.putObj_heap_same (hlt hl2), (World.putObj_heap_other (by omega)).trans hd2⟩
     ·rcases hk with hk | hk
      ·exact .inl ((hfoot k).1 hk)
      ·exact .inr hk
    have e0 : ({ rc .ready none with state := .busy } : Loop) = rc .busy none := by rw [hrc]
    rw [e0]
    refine wide_seq (r := some (w.heap.size + 1)) (hbody (both rb ot) (fun b t cs hm => by subst hot; exact fix_ptr hstF hm) _ hst3) ?_
    -- what a round's end owes
    have fin : ∀ (jump : Option Code) (w3 : World) (L3 : List Chunk), St w0 (L3 ++ [both rb ot]) w3 →
      (Instr.endRound (w.heap.size + 1) jump).run P w3 = .ok (.bool jump.isNone) (w3.putObj (w.heap.size + 1) (.loop (rc (if jump.isNone then .ready else .done) jump))) ∧
      St w0 (L3 ++ (F ++ [both (obj (w.heap.size + 1) (.loop (rc (if jump.isNone then .ready else .done) jump))) (dfr w.heap.size)])) (w3.putObj (w.heap.size + 1) (.loop (rc (if jump.isNone then .ready else .done) jump))) ∧
      Grew (foots (L' ++ [rd])) W (foots (L3 ++ [rd])) ∧ Kept (foots (L' ++ [rd])) W (w3.putObj (w.heap.size + 1) (.loop (rc (if jump.isNone then .ready else .done) jump))) ∧
      ∀ i, foots (L3 ++ [rd]) i → i < (w3.putObj (w.heap.size + 1) (.loop (rc (if jump.isNone then .ready else .done) jump))).heap.size := by
     intro jump w3 L3 hst4
     have hf4 := st_front hst4
     have h1 := hf4.2.1.1
     have hl4 : w3.heap[w.heap.size + 1]? = some (.loop (rc .busy none)) := by subst hrb; exact h1.1
     have hd4 : w3.heap[w.heap.size]? = some (.deferred (some [])) := by subst hrb; exact h1.2
     have hst5 : St w0 ((L3 ++ F) ++ [rb]) w3 := by
      rw [List.append_assoc]; subst hot; exact fix_expand hF hfoot hstF hst4
     have hs4 : St w0 (L3 ++ (F ++ [both (obj (w.heap.size + 1) (.loop (rc (if jump.isNone then .ready else .done) jump))) (dfr w.heap.size)])) (w3.putObj (w.heap.size + 1) (.loop (rc (if jump.isNone then .ready else .done) jump))) := by
      rw [← List.append_assoc]
      refine st_put hst5 ((hfoot _).2 hrdl) ⟨World.putObj_heap_same (hlt hl4), (World.putObj_heap_other (by omega)).trans hd4⟩ (fun k hk => (hfoot k).2 ?_)
      subst hrd; exact hk
     refine ⟨?_, hs4, ?_, ?_, ?_⟩
     ·have := run_endRound (P := P) jump hl4
      rw [this, hrc]
     ·rintro i ⟨c, hc, hi⟩
      by_cases hfi : foots (L' ++ [rd]) i
      ·exact .inl hfi
      ·refine .inr (Nat.le_of_not_lt fun hlt' => ?_)
       rcases List.mem_append.1 hc with hc | hc
       ·refine hf4.2.2.2 c hc i hi (.inr ?_)
        subst hot
        exact ⟨(hst4.2.1 c (by simp [hc])).2 i hi, hlt', hfi⟩
       ·simp at hc; subst hc; exact hfi ⟨c, by simp, hi⟩
     ·intro i hi hni
      have hne : i ≠ w.heap.size + 1 := fun e => hni ⟨rd, by simp, by subst e; exact hrdl⟩
      rw [World.putObj_heap_other (by omega)]
      rcases Nat.lt_or_ge i w0.heap.size with h2 | h2
      ·rw [hst4.1.block i h2, hst.1.block i h2]
      ·have h3 := hf4.2.1.2
       subst hot
       exact h3 i h2 hi hni
     ·rintro i ⟨c, hc, hi⟩
      have hs4' := hsub hs4
      rcases List.mem_append.1 hc with hc | hc
      ·exact hs4'.lt (c := c) (by simp [hc]) hi
      ·simp at hc
       refine hs4'.lt (c := both (obj (w.heap.size + 1) (.loop (rc (if jump.isNone then .ready else .done) jump))) (dfr w.heap.size)) (by simp) ?_
       subst hc; subst hrd; exact hi
    rintro e a3 w3 hq
    cases e with
    | normal =>
     obtain ⟨L3, hJ3, hst4⟩ := hq
     obtain ⟨hr, hs, hgr, hk, hlt3⟩ := fin none w3 L3 hst4
     exact ⟨_, _, hr, _, hgr, hk, hlt3, .inl ⟨rfl, L3, hJ3, by subst hrd; exact hs, rfl⟩⟩
    | ret =>
     obtain ⟨L3, hJ3, hst4⟩ := hq
     obtain ⟨hr, hs, hgr, hk, hlt3⟩ := fin (some .ret) w3 L3 hst4
     exact ⟨_, _, hr, _, hgr, hk, hlt3, .inr ⟨rfl, _, L3, hJ3, hs, rfl⟩⟩
    | exit id =>
     obtain ⟨L3, hJ3, hst4⟩ := hq
     obtain ⟨hr, hs, hgr, hk, hlt3⟩ := fin (some (.exit id)) w3 L3 hst4
     exact ⟨_, _, hr, _, hgr, hk, hlt3, .inr ⟨rfl, _, L3, hJ3, hs, rfl⟩⟩
    | _ => exact (show False from hq).elim
   | _ => exact (show False from hp).elim
  ·-- the function has returned
   rintro e w3 ⟨⟨v, rfl⟩, hh⟩
   have hdef : ({ frd D l with defers := [mark w.heap.size] ++ (frd D l).defers } : Act) = frd (mark w.heap.size :: D) l := rfl
   rw [hdef]
   rcases hh with ⟨f', L', hJ, hstF, _⟩ | ⟨k, f', _, c, L', hJ, hstF, _⟩
   ·have hf := st_front (hsub hstF)
    have hl3 : w3.heap[w.heap.size + 1]? = some (.loop (rc .ready none)) := by
     have h1 := hf.2.1
     subst hrd; exact h1.1
    have hd3 : w3.heap[w.heap.size]? = some (.deferred (some [])) := by
     have h1 := hf.2.1
     subst hrd; exact h1.2
    have hend := run_endLoop (P := P) hl3 (by rw [hrc]; simp)
    refine ⟨_, _, hend, ?_⟩
    have e1 : (rc .ready none).pending = none := by rw [hrc]
    rw [e1]
    refine done _ L' hJ _ ?_
    rw [← List.append_assoc] at hstF ⊢
    exact st_put hstF (by subst hrd; exact .inl rfl) ((World.putObj_heap_other (by omega)).trans hd3) (fun k hk => by subst hrd; exact .inr hk)
   ·have hf := st_front (hsub hstF)
    have hl3 : w3.heap[w.heap.size + 1]? = some (.loop (rc .done (some c))) := hf.2.1.1
    have hd3 : w3.heap[w.heap.size]? = some (.deferred (some [])) := hf.2.1.2
    have hend := run_endLoop (P := P) hl3 (by rw [hrc]; simp)
    refine ⟨_, _, hend, ?_⟩
    have e1 : (rc .done (some c)).pending = some c := by rw [hrc]
    rw [e1]
    refine stop _ c L' hJ _ ?_
    rw [← List.append_assoc] at hstF ⊢
    exact st_put hstF (.inl rfl) ((World.putObj_heap_other (by omega)).trans hd3) (fun k hk => .inr hk)
end Go.R

namespace Go.R
open Go.RowKit Go.K
def RPW (J : Nat → (Nat → Prop) → World → Prop) (JX : Code → (Nat → Prop) → World → Prop) (k : Nat) (f : Nat → Prop) (W : World) : Exit → Act → World → Prop
 | .normal, _, w => ∃ f', J (k + 1) f' w ∧ Grew f W f' ∧ Kept f W w ∧ ∀ i, f' i → i < w.heap.size
 | .ret, _, w => ∃ f', JX .ret f' w ∧ Grew f W f' ∧ Kept f W w ∧ ∀ i, f' i → i < w.heap.size
 | .exit id, _, w => ∃ f', JX (.exit id) f' w ∧ Grew f W f' ∧ Kept f W w ∧ ∀ i, f' i → i < w.heap.size
 | _, _, _ => False
theorem below_put {B b : Nat} {w : World} {o : Obj} (hb : B ≤ b) (hl : b < w.heap.size) : Below B w (w.putObj b o) :=
 (Below.refl B w).grown (row := some b) (grownBy_putObj' w b o) (by omega) (fun k hk => by cases hk; exact hb)
def Step2 {α : Type} (XS : List α) (J Jx : Nat → (Nat → Prop) → World → Prop) (k : Nat) (f : Nat → Prop) (w : World) (b : Bool) (w' : World) : Prop :=
 (b = true ∧ ∃ f', J (k + 1) f' w' ∧ Keep f w f' w' ∧ Grew f w f' ∧ ∀ i, f' i → i < w'.heap.size) ∨ (b = false ∧ ∃ k' f', k' ≤ XS.length ∧ Jx k' f' w' ∧ Keep f w f' w' ∧ Grew f w f' ∧ ∀ i, f' i → i < w'.heap.size)
theorem yield_step2 {α : Type} {P : Program} {lr : Nat} {enc : α → Value} {XS : List α} {J Jx : Nat → (Nat → Prop) → World → Prop} (hR : RoundOK P lr enc XS J Jx) {k : Nat} {x : α} {f : Nat → Prop} {w : World} (hx : XS[k]? = some x) (hJ : J k f w) :
  YieldAt (fen none) 0 P lr #[enc x] w (fun e w' => ∃ b, e = .returned (.bool b) ∧ Step2 XS J Jx k f w b w') := by
 obtain ⟨fn, tmps, assign, body, h1, h2⟩ := hR k x f w hx hJ
 refine ⟨fn, tmps, assign, body, h1, h2.mono ?_⟩
 rintro e w' ⟨f', hg, hk, hl, h⟩
 rcases h with ⟨he, h⟩ | ⟨he, h⟩
 ·exact ⟨true, he, .inl ⟨rfl, f', h, Keep.of hg hk, hg, hl⟩⟩
 ·exact ⟨false, he, .inr ⟨rfl, k + 1, f', (List.getElem?_eq_some_iff.1 hx).1, h, Keep.of hg hk, hg, hl⟩⟩
structure Mark (B b : Nat) (f : Nat → Prop) (W : World) : Prop where
 h : W.heap[b]? = some (.deferred (some []))
 B : B ≤ b
 n : ¬ f b
def BodyW (P : Program) (J : Nat → (Nat → Prop) → World → Prop) (JX : Code → (Nat → Prop) → World → Prop) (k : Nat) (f : Nat → Prop) (W : World) (lr : Nat) (body : Code) : Act → World → Prop :=
 fun a w => ∃ l2 L, a = frd [] l2 ∧ St W L w ∧ ∀ W2, J k f W2 → (∀ i, f i → i < W2.heap.size) → (∀ i, W.heap.size ≤ i → W2.heap[i]? = w.heap[i]?) → w.heap.size ≤ W2.heap.size → body.wpIn (fen (some lr)) 0 P (RPW J JX k f W2) (frd [] l2) W2
theorem bodyW {P : Program} {J : Nat → (Nat → Prop) → World → Prop} {JX : Code → (Nat → Prop) → World → Prop} {k : Nat} {f : Nat → Prop} {W : World} {lr : Nat} {c : Code} {l2 : List Value} {L : List Chunk}
  (h : ∀ w, St W L w → ∀ W2, J k f W2 → (∀ i, f i → i < W2.heap.size) → (∀ i, W.heap.size ≤ i → W2.heap[i]? = w.heap[i]?) → w.heap.size ≤ W2.heap.size → Hold W2 [] (c.wpIn (fen (some lr)) 0 P (RPW J JX k f W2) (frd [] l2))) :
  Hold W L (BodyW P J JX k f W lr c (frd [] l2)) := fun w hw => ⟨l2, L, rfl, hw, fun W2 h1 h2 h3 h4 => h w hw W2 h1 h2 h3 h4 W2 (St.start W2)⟩
theorem Stays.own1 {B : Nat} {p : Addr} {us : List Value} (hb : p.block < B) : Stays B (fun _ f W => Own1 f W p us) := fun k f w w' h hbl _ => ⟨Nat.lt_of_lt_of_le h.1 hbl.size, h.2.1, fun j u hu => (hbl.cell (p := p.add j) (by rw [addr_block]; exact hb)).trans (h.2.2 j u hu)⟩
theorem Stays.and {B : Nat} {J J' : Nat → (Nat → Prop) → World → Prop} (h : Stays B J) (h' : Stays B J') : Stays B (fun k f W => J k f W ∧ J' k f W) := fun k f w w' hJ hb hs => ⟨h k f w w' hJ.1 hb hs, h' k f w w' hJ.2 hb hs⟩
theorem Stays.mono {B B' : Nat} {J : Nat → (Nat → Prop) → World → Prop} (h : Stays B J) (hB : B ≤ B') (c : Nat → Nat) : Stays B' (fun k => J (c k)) := fun k f w w' hJ hb hs => h (c k) f w w' hJ (hb.mono hB) hs
theorem Own1.round {f : Nat → Prop} {W w W2 : World} {L : List Chunk} {b : Nat} {t : TypeId} {cs : List Value} (hw : St W L w) (hm : K.blk b t cs ∈ L) (hf : ∀ i, f i → i < W.heap.size) (h1 : ∀ i, W.heap.size ≤ i → W2.heap[i]? = w.heap[i]?) (h2 : w.heap.size ≤ W2.heap.size) : Own1 f W2 ⟨b, 0, none⟩ cs := by
 have h := Own1.blk (f := f) hw hm hf
 have hb : W.heap.size ≤ b := (hw.2.1 _ hm).2 b rfl
 exact ⟨Nat.lt_of_lt_of_le h.1 h2, h.2.1, fun j u hu => by
  rw [← h.2.2 j u hu]
  exact World.cell?_of_block (by rw [addr_block]; exact h1 b hb)⟩
theorem Own1.into {f : Nat → Prop} {w0 w : World} {F : List Chunk} {p : Addr} {us : List Value} (h : Own1 f w0 p us) (hw : St w0 F w) : PtrL w [] p us := PtrL.old (Nat.lt_of_lt_of_le h.1 hw.1.size) (h.ptr F w (by simp) hw)
theorem Own1.sub {f f' : Nat → Prop} {w w' : World} {p : Addr} {us : List Value} (h : Own1 f w p us) (h1 : ∀ i, i < w.heap.size → f' i → f i) (hb : Below w.heap.size w w') : Own1 f' w' p us :=
 ⟨Nat.lt_of_lt_of_le h.1 hb.size, fun hf => h.2.1 (h1 _ h.1 hf), fun j u hu => (hb.cell (p := p.add j) (by rw [addr_block]; exact h.1)).trans (h.2.2 j u hu)⟩
theorem rpw_same {B : Nat} {J : Nat → (Nat → Prop) → World → Prop} {JX : Code → (Nat → Prop) → World → Prop} {k : Nat} {f : Nat → Prop} {W : World} {L : List Chunk} {a : Act} (hJ : Stays B J) (hB : B ≤ W.heap.size) (hf : ∀ i, f i → i < W.heap.size) (h : J (k + 1) f W) : Hold W L (RPW J JX k f W .normal a) := fun w hw =>
 ⟨f, hJ.below h hf hB hw.1, fun i hi => .inl hi, fun i hi _ => hw.1.block i hi, fun i hi => Nat.lt_of_lt_of_le (hf i hi) hw.1.size⟩
theorem rpw_next {J : Nat → (Nat → Prop) → World → Prop} {JX : Code → (Nat → Prop) → World → Prop} {k : Nat} {f f2 : Nat → Prop} {W w1 w2 : World} {L L1 : List Chunk} {a : Act} (hw1 : St W L1 w1) (hk : Keep f w1 f2 w2) (hg : Grew f w1 f2) (hf2 : ∀ i, f2 i → i < w2.heap.size) (h : ∀ w, St w2 L w → J (k + 1) f2 w) : Hold w2 L (RPW J JX k f W .normal a) := fun w hw =>
 ⟨f2, h w hw, fun i hi => (hg i hi).imp id (Nat.le_trans hw1.1.size), fun i hi hn => by
  obtain ⟨h1, h2⟩ := hk i (Nat.lt_of_lt_of_le hi hw1.1.size) hn
  have hi2 := lt_of_same (Nat.lt_of_lt_of_le hi hw1.1.size) h2
  rw [hw.1.block i hi2, h2, hw1.1.block i hi], fun i hi => Nat.lt_of_lt_of_le (hf2 i hi) hw.1.size⟩
theorem rpw_ret {J : Nat → (Nat → Prop) → World → Prop} {JX : Code → (Nat → Prop) → World → Prop} {k : Nat} {f f2 : Nat → Prop} {W w1 w2 : World} {L L1 : List Chunk} {a : Act} (hw1 : St W L1 w1) (hk : Keep f w1 f2 w2) (hg : Grew f w1 f2) (hf2 : ∀ i, f2 i → i < w2.heap.size) (h : ∀ w, St w2 L w → JX .ret f2 w) : Hold w2 L (RPW J JX k f W .ret a) := fun w hw =>
 ⟨f2, h w hw, fun i hi => (hg i hi).imp id (Nat.le_trans hw1.1.size), fun i hi hn => by
  obtain ⟨h1, h2⟩ := hk i (Nat.lt_of_lt_of_le hi hw1.1.size) hn
  have hi2 := lt_of_same (Nat.lt_of_lt_of_le hi hw1.1.size) h2
  rw [hw.1.block i hi2, h2, hw1.1.block i hi], fun i hi => Nat.lt_of_lt_of_le (hf2 i hi) hw.1.size⟩
theorem rangeW {α : Type} {P : Program} {w1 : World} {Q : Exit → Act → World → Prop} {l : List Value} {g : Operand} {p : Tmp} {assign body : Code} {gf : FuncId} {first cap : List Value} {pre : (Nat → Prop) → World → Prop} {enc : α → Value} {XS : List α} {n : Nat}
  (hg : ev l g = .func (.func gf) first.toArray cap.toArray) (hcal : callable P gf = true) (hit : IterC P gf first cap pre enc XS)
  (B : Nat) (hB : B ≤ w1.heap.size) (J : Nat → (Nat → Prop) → World → Prop) (JX : Code → (Nat → Prop) → World → Prop) (hJ : Stays B J) (hJX : ∀ c, Stays B (fun _ => JX c)) (f : Nat → Prop) (hf : ∀ i, f i → i < w1.heap.size) (h0 : J 0 f w1)
  (hpre : ∀ f' w', (∀ i, i < w1.heap.size → f' i → f i) → Below w1.heap.size w1 w' → pre f' w')
  (round : ∀ k x f W lr, XS[k]? = some x → J k f W → (∀ i, f i → i < W.heap.size) → B ≤ W.heap.size →
   Hold W [] (assign.wpIn (fen (some lr)) 0 P (Exit.then (BodyW P J JX k f W lr body) (fun _ _ _ => False)) (frd [] (setn l p (enc x)))))
  (done : ∀ b f W, J XS.length f W → Mark B b f W → Q .normal (frd [mark b] l) W)
  (stop : ∀ b c f W, JX c f W → Mark B b f W → c.wpIn (fen none) n P Q (frd [mark b] l) W) :
  (Code.rangeFunc g #[p] assign body).wpIn (fen none) n P Q (frd [] l) w1 := by
 refine wpIn_rangeFunc ?_
 intro fn hfn
 obtain ⟨rc, hrc⟩ : ∃ rc : LoopState → Option Code → Loop, rc = fun st pe => { state := st, pending := pe, fn, tmps := l.toArray, params := #[p], assign, body, defers := w1.heap.size } := ⟨_, rfl⟩
 obtain ⟨W1, hW1⟩ : ∃ W1, (w1.alloc (.deferred (some []))).alloc (.loop (rc .ready none)) = W1 := ⟨_, rfl⟩
 have hb1 : Below w1.heap.size w1 W1 := by
  rw [← hW1]; exact ((Below.refl _ w1).alloc (Nat.le_refl _) _).alloc (by simp) _
 have hs1 : W1.heap.size = w1.heap.size + 2 := by rw [← hW1]; simp
 have hl1 : W1.heap[w1.heap.size + 1]? = some (.loop (rc .ready none)) := by
  rw [← hW1]; have := World.alloc_heap_new (w1.alloc (.deferred (some []))) (.loop (rc .ready none)); rwa [World.size_alloc] at this
 have hd1 : W1.heap[w1.heap.size]? = some (.deferred (some [])) := by
  rw [← hW1]; exact (Below.heap_alloc _ _ _ (by simp)).trans (World.alloc_heap_new w1 _)
 have hn0 : ¬ f (w1.heap.size + 1) := fun h => by have := hf _ h; omega
 have hn1 : ¬ f w1.heap.size := fun h => by have := hf _ h; omega
 refine ⟨w1.heap.size + 1, [mark w1.heap.size], W1, { target := .fn (.func gf) cap.toArray, args := first.toArray ++ #[Value.func (.yield (w1.heap.size + 1)) #[] #[]] }, W1, gf,
  (first ++ [Value.func (.yield (w1.heap.size + 1)) #[] #[]] ++ cap).toArray, W1, ?_, ?_, fun _ _ => trivial, ?_, fun h => (by cases h), ?_⟩
 ·rw [← hW1, hrc]; exact run_enterLoop_outer _ _ _ _ _
 ·have he : (frd [] l).eval g = .func (.func gf) first.toArray cap.toArray := by rw [frd_eval]; exact hg
  simp only [resolve, he]
  simp [go_sem]
 ·simp [invoke, go_sem, run_call hcal]
 ·refine calls_fen ((hit (w1.heap.size + 1) W1.heap.size
   (fun k G W => ∃ f, J k f W ∧ (∀ i, f i → i < W.heap.size) ∧ G = (fun i => f i ∨ i = w1.heap.size + 1 ∨ i = w1.heap.size) ∧ W.heap[w1.heap.size + 1]? = some (.loop (rc .ready none)) ∧ W.heap[w1.heap.size]? = some (.deferred (some [])) ∧ ¬ f (w1.heap.size + 1) ∧ ¬ f w1.heap.size)
   (fun k G W => ∃ c f, JX c f W ∧ (∀ i, f i → i < W.heap.size) ∧ G = (fun i => f i ∨ i = w1.heap.size + 1 ∨ i = w1.heap.size) ∧ W.heap[w1.heap.size + 1]? = some (.loop (rc .done (some c))) ∧ W.heap[w1.heap.size]? = some (.deferred (some [])) ∧ ¬ f (w1.heap.size + 1) ∧ ¬ f w1.heap.size)
   (fun i => f i ∨ i = w1.heap.size + 1 ∨ i = w1.heap.size) W1 (Nat.le_refl _) ?_ ?_ ?_ ?_ ⟨f, hJ.below h0 hf hB hb1, fun i hi => Nat.lt_of_lt_of_le (hf i hi) hb1.size, rfl, hl1, hd1, hn0, hn1⟩
   (hpre _ _ (fun i hi h => by
    rcases h with h | h | h
    ·exact h
    ·omega
    ·omega) hb1)).mono ?_)
  ·rintro k G W W' ⟨f, h1, h2, rfl, h3, h4, h5, h6⟩ hb hs
   exact ⟨f, hJ k f W W' h1 (hb.mono (by omega)) (fun i hi => hs i (.inl hi)), fun i hi => Nat.lt_of_lt_of_le (h2 i hi) hb.size, rfl, (hs _ (.inr (.inl rfl))).trans h3, (hs _ (.inr (.inr rfl))).trans h4, h5, h6⟩
  ·rintro k G W W' ⟨c, f, h1, h2, rfl, h3, h4, h5, h6⟩ hb hs
   exact ⟨c, f, hJX c k f W W' h1 (hb.mono (by omega)) (fun i hi => hs i (.inl hi)), fun i hi => Nat.lt_of_lt_of_le (h2 i hi) hb.size, rfl, (hs _ (.inr (.inl rfl))).trans h3, (hs _ (.inr (.inr rfl))).trans h4, h5, h6⟩
  ·rintro i (h | h | h)
   ·exact Nat.lt_of_lt_of_le (hf i h) hb1.size
   ·omega
   ·omega
  ·-- one round
   rintro k x G W hx ⟨f, hJk, hfb, rfl, hl, hd, hn0, hn1⟩
   have hy := run_yield (P := P) (args := #[enc x]) hl (by rw [hrc]; rfl)
   have hy' : (Instr.yield (w1.heap.size + 1) #[enc x]).run P W = .ok (.round (w1.heap.size + 1) fn (setn l p (enc x)).toArray assign body) W := by
    rw [hy, hrc]
    congr 2
    simp [setn_eq]
   refine ⟨fn, _, assign, body, hy', roundIn_of_wpIn trivial ?_⟩
   have hBW : B ≤ W.heap.size := Nat.le_trans (by omega) (Nat.le_of_lt (lt_of_some hl))
   refine wide_seq (r := some (w1.heap.size + 1)) (round k x f W (w1.heap.size + 1) hx hJk hfb hBW W (St.start W)) ?_
   rintro e a1 w2 hp
   cases e with
   | normal =>
    obtain ⟨l2, L2, rfl, hstw, hbody⟩ := hp
    have hlW := lt_of_some hl
    have hdW := lt_of_some hd
    have hl' : w2.heap[w1.heap.size + 1]? = some (.loop (rc .ready none)) := (hstw.1.block _ hlW).trans hl
    have hd' : w2.heap[w1.heap.size]? = some (.deferred (some [])) := (hstw.1.block _ hdW).trans hd
    have hsz := hstw.1.size
    refine ⟨_, run_beginRound hl' (by rw [hrc]), ?_⟩
    have e0 : ({ rc .ready none with state := .busy } : Loop) = rc .busy none := by rw [hrc]
    rw [e0]
    have hlt := lt_of_some hl'
    have hltd := lt_of_some hd'
    obtain ⟨W2, hW2⟩ : ∃ W2, w2.putObj (w1.heap.size + 1) (.loop (rc .busy none)) = W2 := ⟨_, rfl⟩
    have hs2 : W2.heap.size = w2.heap.size := by rw [← hW2]; simp [World.putObj]
    have hl2 : W2.heap[w1.heap.size + 1]? = some (.loop (rc .busy none)) := by rw [← hW2]; exact World.putObj_heap_same hlt
    have ho2 : ∀ i, i ≠ w1.heap.size + 1 → W2.heap[i]? = w2.heap[i]? := fun i hi => by rw [← hW2]; exact World.putObj_heap_other (by omega)
    have hd2 : W2.heap[w1.heap.size]? = some (.deferred (some [])) := (ho2 _ (by omega)).trans hd'
    have hJ2 : J k f W2 := hJ k f w2 W2 (hJ.below hJk hfb hBW hstw.1) (by rw [← hW2]; exact below_put (by omega) hlt) (fun i hi => ho2 i (fun e => hn0 (e ▸ hi)))
    rw [hW2]
    refine wide_seq (r := some (w1.heap.size + 1)) (hbody W2 hJ2 (fun i hi => by rw [hs2]; exact Nat.lt_of_lt_of_le (hfb i hi) hsz) (fun i hi => ho2 i (by omega)) (by omega)) ?_
    have fin : ∀ (jump : Option Code) (w3 : World) (f' : Nat → Prop), Grew f W2 f' → Kept f W2 w3 → (∀ i, f' i → i < w3.heap.size) →
      (Instr.endRound (w1.heap.size + 1) jump).run P w3 = .ok (.bool jump.isNone) (w3.putObj (w1.heap.size + 1) (.loop (rc (if jump.isNone then .ready else .done) jump))) ∧
      (∀ i, f' i → (w3.putObj (w1.heap.size + 1) (.loop (rc (if jump.isNone then .ready else .done) jump))).heap[i]? = w3.heap[i]?) ∧
      Below B w3 (w3.putObj (w1.heap.size + 1) (.loop (rc (if jump.isNone then .ready else .done) jump))) ∧
      (w3.putObj (w1.heap.size + 1) (.loop (rc (if jump.isNone then .ready else .done) jump))).heap[w1.heap.size + 1]? = some (.loop (rc (if jump.isNone then .ready else .done) jump)) ∧
      (w3.putObj (w1.heap.size + 1) (.loop (rc (if jump.isNone then .ready else .done) jump))).heap[w1.heap.size]? = some (.deferred (some [])) ∧
      ¬ f' (w1.heap.size + 1) ∧ ¬ f' w1.heap.size ∧
      Grew (fun i => f i ∨ i = w1.heap.size + 1 ∨ i = w1.heap.size) W (fun i => f' i ∨ i = w1.heap.size + 1 ∨ i = w1.heap.size) ∧
      Kept (fun i => f i ∨ i = w1.heap.size + 1 ∨ i = w1.heap.size) W (w3.putObj (w1.heap.size + 1) (.loop (rc (if jump.isNone then .ready else .done) jump))) := by
     intro jump w3 f' hgr hk hb3
     have hl4 : w3.heap[w1.heap.size + 1]? = some (.loop (rc .busy none)) := (hk _ (by omega) hn0).trans hl2
     have hd4 : w3.heap[w1.heap.size]? = some (.deferred (some [])) := (hk _ (by omega) hn1).trans hd2
     have hnf0 : ¬ f' (w1.heap.size + 1) := fun h => by
      rcases hgr _ h with h | h
      ·exact hn0 h
      ·omega
     have hnf1 : ¬ f' w1.heap.size := fun h => by
      rcases hgr _ h with h | h
      ·exact hn1 h
      ·omega
     refine ⟨?_, fun i hi => World.putObj_heap_other (fun e => hnf0 (by first | exact e ▸ hi | exact e.symm ▸ hi)), below_put (by omega) (lt_of_some hl4), World.putObj_heap_same (lt_of_some hl4), (World.putObj_heap_other (by omega)).trans hd4, hnf0, hnf1, ?_, ?_⟩
     ·have := run_endRound (P := P) jump hl4
      rw [this, hrc]
     ·rintro i (h | h)
      ·rcases hgr i h with h | h
       ·exact .inl (.inl h)
       ·exact .inr (by omega)
      ·exact .inl (.inr h)
     ·intro i hi hni
      have h1 : i ≠ w1.heap.size + 1 := fun e => hni (.inr (.inl e))
      rw [World.putObj_heap_other (by omega), hk i (by omega) (fun h => hni (.inl h)), ho2 i h1, hstw.1.block i hi]
    rintro e a3 w3 hq
    cases e with
    | normal =>
     obtain ⟨f', hJ3, hgr, hk, hb3⟩ := hq
     obtain ⟨hr, hsm, hbl, h5, h6, h7, h8, h9, h10⟩ := fin none w3 f' hgr hk hb3
     refine ⟨_, _, hr, _, h9, h10, ?_, .inl ⟨rfl, f', hJ _ _ _ _ hJ3 hbl hsm, fun i hi => Nat.lt_of_lt_of_le (hb3 i hi) hbl.size, rfl, h5, h6, h7, h8⟩⟩
     rintro i (h | h | h)
     ·exact Nat.lt_of_lt_of_le (hb3 i h) hbl.size
     ·subst h; exact lt_of_some h5
     ·subst h; exact lt_of_some h6
    | ret =>
     obtain ⟨f', hJ3, hgr, hk, hb3⟩ := hq
     obtain ⟨hr, hsm, hbl, h5, h6, h7, h8, h9, h10⟩ := fin (some .ret) w3 f' hgr hk hb3
     refine ⟨_, _, hr, _, h9, h10, ?_, .inr ⟨rfl, .ret, f', hJX .ret 0 _ _ _ hJ3 hbl hsm, fun i hi => Nat.lt_of_lt_of_le (hb3 i hi) hbl.size, rfl, h5, h6, h7, h8⟩⟩
     rintro i (h | h | h)
     ·exact Nat.lt_of_lt_of_le (hb3 i h) hbl.size
     ·subst h; exact lt_of_some h5
     ·subst h; exact lt_of_some h6
    | exit id =>
     obtain ⟨f', hJ3, hgr, hk, hb3⟩ := hq
     obtain ⟨hr, hsm, hbl, h5, h6, h7, h8, h9, h10⟩ := fin (some (.exit id)) w3 f' hgr hk hb3
     refine ⟨_, _, hr, _, h9, h10, ?_, .inr ⟨rfl, .exit id, f', hJX (.exit id) 0 _ _ _ hJ3 hbl hsm, fun i hi => Nat.lt_of_lt_of_le (hb3 i hi) hbl.size, rfl, h5, h6, h7, h8⟩⟩
     rintro i (h | h | h)
     ·exact Nat.lt_of_lt_of_le (hb3 i h) hbl.size
     ·subst h; exact lt_of_some h5
     ·subst h; exact lt_of_some h6
    | _ => exact (show False from hq).elim
   | _ => exact (show False from hp).elim
  ·-- the function has returned
   rintro e w3 ⟨⟨v, rfl⟩, hh⟩
   have hdef : ({ frd [] l with defers := [mark w1.heap.size] ++ (frd [] l).defers } : Act) = frd [mark w1.heap.size] l := rfl
   rw [hdef]
   rcases hh with ⟨G, f', hJ3, hb3, rfl, hl3, hd3, h5, h6⟩ | ⟨k, G, _, c, f', hJ3, hb3, rfl, hl3, hd3, h5, h6⟩
   ·have hend := run_endLoop (P := P) hl3 (by rw [hrc]; simp)
    refine ⟨_, _, hend, ?_⟩
    have e1 : (rc .ready none).pending = none := by rw [hrc]
    rw [e1]
    exact done _ f' _ (hJ _ _ _ _ hJ3 (below_put (by omega) (lt_of_some hl3)) (fun i hi => World.putObj_heap_other (fun e => h5 (by first | exact e ▸ hi | exact e.symm ▸ hi)))) ⟨(World.putObj_heap_other (by omega)).trans hd3, hB, h6⟩
   ·have hend := run_endLoop (P := P) hl3 (by rw [hrc]; simp)
    refine ⟨_, _, hend, ?_⟩
    have e1 : (rc .done (some c)).pending = some c := by rw [hrc]
    rw [e1]
    exact stop _ c f' _ (hJX c 0 _ _ _ hJ3 (below_put (by omega) (lt_of_some hl3)) (fun i hi => World.putObj_heap_other (fun e => h5 (by first | exact e ▸ hi | exact e.symm ▸ hi)))) ⟨(World.putObj_heap_other (by omega)).trans hd3, hB, h6⟩
theorem leaveW {P : Program} {fn : Func} {l : List Value} {R : Ending → World → Prop} {v : Value} {B b : Nat} {f : Nat → Prop} {W : World} (hm : Mark B b f W) (hr : ∀ w, (results fn l.toArray).run P w = .ok v w)
  (k : ∀ W', Below B W W' → (∀ i, f i → W'.heap[i]? = W.heap[i]?) → R (.returned v) W') : LeavesInM (fen none) 0 P fn l.toArray R [mark b] .returning W :=
 ⟨by simp, .inl ⟨b, _, rfl, run_takeDeferred hm.h, v, hr _, k _ (below_put hm.B (lt_of_some hm.h)) (fun i hi => World.putObj_heap_other (fun e => hm.n (by first | exact e ▸ hi | exact e.symm ▸ hi)))⟩⟩
def RoundEndY (Inv : List Value → World → Prop) (μ : List Value → Nat) (wi wr : List Nat) (l vi : List Value) : Act → World → Prop :=
 fun a w' => ∃ vi' vr', a = frd [] (setF vr' (setM l wi vi') wr) ∧ Inv vi' w' ∧ μ vi' < μ vi
theorem loopY {P : Program} {w0 : World} {L : List Chunk} {Q : Exit → Act → World → Prop} {l : List Value} {x : Code} {n : Nat} (wi wr : List Nat) (Inv : List Value → World → Prop) (μ : List Value → Nat) (h0 : ∀ w, St w0 L w → Inv (wi.map (nth l)) w)
  (round : ∀ vi vr W, Inv vi W → Hold W [] (x.wpIn (fen none) n P (Exit.then (RoundEndY Inv μ wi wr l vi) Q) (frd [] (setF vr (setM l wi vi) wr)))) :
  Hold w0 L ((Code.loop x).wpIn (fen none) n P Q (frd [] l)) := by
 intro w hw
 refine wpIn_loop_ghost (fun n a w => ∃ vi vr, a = frd [] (setF vr (setM l wi vi) wr) ∧ Inv vi w ∧ μ vi = n) _ ⟨_, nth l, by rw [setM_self, setF_self], h0 w hw, rfl⟩ ?_
 rintro n a w ⟨vi, vr, rfl, hJ, rfl⟩
 refine wpIn_mono (round vi vr w hJ w (St.start w)) (fun e a' w' hq => ?_)
 cases e with
 | normal =>
  obtain ⟨vi', vr', rfl, hJ', hlt⟩ := hq
  exact ⟨_, hlt, vi', vr', rfl, hJ', rfl⟩
 | _ => exact hq
theorem roundY {w0 : World} {L : List Chunk} {Q : Exit → Act → World → Prop} {Inv : List Value → World → Prop} {μ : List Value → Nat} {wi wr : List Nat} {vi l0 l : List Value} (vi' : List Value) (hJ : ∀ w, St w0 L w → Inv vi' w) (hμ : μ vi' < μ vi) (he : l = setF (nth l) (setM l0 wi vi') wr) :
  Hold w0 L (Exit.then (RoundEndY Inv μ wi wr l0 vi) Q .normal (frd [] l)) := fun w hw => ⟨vi', nth l, by rw [← he], hJ w hw, hμ⟩
end Go.R

namespace Go.R
open Go.RowKit Go.K
section
variable {P : Program} {ops : Array Oper} {Q : Exit → Act → World → Prop} {S : World → Prop} {B : Nat → Bool} {z : Nat} {Zp : Nat → Array Bool → Act → World → Prop}
def wpAnyZ (P : Program) (ops : Array Oper) (Q : Exit → Act → World → Prop) (S : World → Prop) (z : Nat) (Zp : Nat → Array Bool → Act → World → Prop) : Nat → Array Bool → Act → World → Prop
 | 0, listed, a, w => Region.ready .any ops listed = [] ∧ Q .normal a w
 | fuel + 1, listed, a, w =>
  (Region.ready .any ops listed = [] → Q .normal a w) ∧
  ∀ i ∈ Region.ready .any ops listed, (i = z → Zp fuel listed a w) ∧ (i ≠ z → wpOp P ops Q i (fun a' w' => (S w → S w') ∧ wpAnyZ P ops Q S z Zp fuel (listed.setIfInBounds i true) a' w') a w)
def chkD (ops : Array Oper) (z : Nat) (listed : Array Bool) (i : Nat) (D : List Nat) : Bool :=
 D.contains z && !(z == i) && D.all (fun k => !(listed.getD k true)) && D.all (fun k => k == i || D.any fun d => waits ops k d)
structure DSet (ops : Array Oper) (z i : Nat) (D : List Nat) (listed : Array Bool) : Prop where
 m : z ∈ D
 n : z ≠ i
 u : ∀ k ∈ D, listed.getD k true = false
 w : ∀ k ∈ D, k ≠ i → ∃ d ∈ D, waits ops k d = true
theorem chkD_spec {listed : Array Bool} {i : Nat} {D : List Nat} (h : chkD ops z listed i D = true) : DSet ops z i D listed := by
 simp only [chkD, Bool.and_eq_true, List.all_eq_true, Bool.or_eq_true, List.any_eq_true, Bool.not_eq_true', beq_iff_eq, List.contains_iff_mem, beq_eq_false_iff_ne] at h
 obtain ⟨⟨⟨h1, h2⟩, h3⟩, h4⟩ := h
 exact ⟨h1, h2, h3, fun k hk hki => by
  rcases h4 k hk with h | ⟨d, hd, hw⟩
  ·exact absurd h hki
  ·exact ⟨d, hd, hw⟩⟩
theorem DSet.out {listed : Array Bool} {i j : Nat} {D : List Nat} (h : DSet ops z i D listed) (hj : j ∈ Region.ready .any ops listed) (hji : j ≠ i) : j ∉ D := fun hm => by
 obtain ⟨d, hd, hw⟩ := h.w j hm hji
 exact unlisted_ready (h.u d hd) hw hj
theorem DSet.next {listed : Array Bool} {i j : Nat} {D : List Nat} (h : DSet ops z i D listed) (hj : j ∉ D) : DSet ops z i D (listed.setIfInBounds j true) :=
 ⟨h.m, h.n, fun k hk => by
  have hne : j ≠ k := fun e => by subst e; exact hj hk
  rw [getD_set_ne true hne]; exact h.u k hk, h.w⟩
theorem wpAnyZ_mem {i : Nat} {oi : Oper} {v : Value} {D : List Nat} (hi : ops[i]? = some oi) (hsel : ∀ (j : Nat) (o : Oper) cs b, ops[j]? = some o → o.op ≠ .select cs b)
  (hQ : ∀ c a w, Q (.panic c) (a.put oi.dst v) w → Q (.panic c) a w) :
  ∀ (fuel : Nat) (listed : Array Bool) (a : Act) (w : World),
   (∀ j oj, ops[j]? = some oj → j ≠ i → listed.getD j true = false → (∀ e ∈ oj.after, Region.binds .any e = true → e.on ≠ i) → oi.apart ops oj = true) →
   DSet ops z i D listed →
   i ∈ Region.ready .any ops listed → YieldsIf P ops S oi v a → S w →
   wpAnyZ P ops Q S z Zp fuel (listed.setIfInBounds i true) (a.put oi.dst v) w → wpAnyZ P ops Q S z Zp (fuel + 1) listed a w := by
 intro fuel
 induction fuel with
 | zero =>
  intro listed a w _ hD hr hy hS H
  refine ⟨fun h => (by rw [h] at hr; cases hr), fun j hj => ?_⟩
  by_cases hji : j = i
  ·subst hji; exact ⟨fun h => absurd h.symm hD.n, fun _ => hy.wpOp hi hS ⟨fun h => h, H⟩⟩
  ·have := ready_mono hj hji
   rw [H.1] at this
   cases this
 | succ fuel ih =>
  intro listed a w hfree hD hr hy hS H
  refine ⟨fun h => (by rw [h] at hr; cases hr), fun j hj => ?_⟩
  by_cases hji : j = i
  ·subst hji; exact ⟨fun h => absurd h.symm hD.n, fun _ => hy.wpOp hi hS ⟨fun h => h, H⟩⟩
  ·have hjD := hD.out hj hji
   refine ⟨fun h => absurd (h ▸ hD.m) hjD, fun hjz => ?_⟩
   have h1 := (H.2 j (ready_mono hj hji)).2 hjz
   obtain ⟨hjun, oj, hoj, hall⟩ := mem_ready.1 hj
   have hiun := (mem_ready.1 hr).1
   have hnot : ∀ e ∈ oj.after, Region.binds .any e = true → e.on ≠ i := fun e he hb heq => by
    have h1 := hall e he hb
    rw [heq] at h1
    rcases Nat.lt_or_ge i listed.size with h' | h'
    ·simp [h'] at hiun h1; rw [hiun] at h1; cases h1
    ·simp [Array.getElem?_eq_none h'] at h1
   have h2 := wpOp_putIf hoj (hfree j oj hoj hji hjun hnot) (fun cs b => hsel i oi cs b hi) (fun cs b => hsel j oj cs b hoj) hQ hy h1
   have back : ∀ k, (listed.setIfInBounds j true).getD k true = false → listed.getD k true = false := fun k hun => by
    by_cases hjk : j = k
    ·subst hjk; exact hjun
    ·rw [getD_set_ne true hjk] at hun; exact hun
   have hfree' : ∀ k ok, ops[k]? = some ok → k ≠ i → (listed.setIfInBounds j true).getD k true = false →
     (∀ e ∈ ok.after, Region.binds .any e = true → e.on ≠ i) → oi.apart ops ok = true := fun k ok hk hki hun hno => hfree k ok hk hki (back k hun) hno
   refine wpOp_mono (fun a' w' h3 => ⟨h3.2.1, ih (listed.setIfInBounds j true) a' w' hfree' (hD.next hjD) (ready_mono hr (Ne.symm hji)) h3.1 (h3.2.1 hS) ?_⟩) h2
   rw [Array.setIfInBounds_comm _ _ hji]
   exact h3.2.2
end
section
variable {r : Option Nat} {n : Nat} {P : Program} {w0 : World} {A L : List Chunk} {D : List Deferred} {ops : Array Oper} {Q : Exit → Act → World → Prop} {l : List Value} {o : Oper} {v : Value} {id fuel z : Nat} {listed : Array Bool}
def ZP (r : Option Nat) (n : Nat) (P : Program) (ops : Array Oper) (Q : Exit → Act → World → Prop) (D : List Deferred) (z : Nat) (fuel : Nat) (listed : Array Bool) (a : Act) (w : World) : Prop :=
 wpOpIn (fen r) n P ops Q z (wpAnyIn (fen r) n P .any ops Q fuel (listed.setIfInBounds z true)) (app D a) w
theorem anyz_in (hd : ops.toList.all noDef = true) : ∀ (fuel : Nat) (listed : Array Bool) (a : Act) (w : World), wpAnyZ P ops (onlyN D Q) (Keeps w0 A) z (ZP r n P ops Q D z) fuel listed a w → wpAnyIn (fen r) n P .any ops Q fuel listed (app D a) w
 | 0, listed, a, w, h => ⟨h.1, by obtain ⟨l, rfl, hq⟩ := h.2; exact hq⟩
 | fuel + 1, listed, a, w, h => by
  refine ⟨fun h0 => by obtain ⟨l, rfl, hq⟩ := h.1 h0; exact hq, fun i hi => ?_⟩
  by_cases hiz : i = z
  ·subst hiz; exact (h.2 i hi).1 rfl
  have h1 := (h.2 i hi).2 hiz
  unfold wpOp at h1
  unfold wpOpIn
  cases ho : ops[i]? with
  | none => rw [ho] at h1; exact anyz_in hd fuel _ _ _ h1.2
  | some o =>
   rw [ho] at h1
   have hdo : noDef o = true := List.all_eq_true.1 hd o (by
    have := Array.mem_of_getElem? ho
    simpa using this)
   have hy : yielded ops (app D a).tmps = yielded ops a.tmps := rfl
   simp only [hy] at h1 ⊢
   split
   ·rename_i hw
    simp only [hw, if_true] at h1
    rcases h1 with h1 | ⟨_, h1⟩
    ·exact op_in hdo (fun a w h => anyz_in hd fuel _ a w h.2) h1
    ·exact (onlyN_lets h1).elim
   ·rename_i hw
    rw [if_neg hw] at h1
    refine ⟨fun _ _ => trivial, ?_⟩
    rw [app_put]
    exact anyz_in hd fuel _ _ w h1.2
def ZHold (r : Option Nat) (n : Nat) (P : Program) (w0 : World) (ops : Array Oper) (Q : Exit → Act → World → Prop) (D : List Deferred) (z : Nat) (A : List Chunk) (fuel : Nat) (listed : Array Bool) (l : List Value) (L : List Chunk) : Prop :=
 ∀ w, St w0 L w → wpAnyZ P ops (onlyN D Q) (Keeps w0 A) z (ZP r n P ops Q D z) fuel listed (fr l) w
theorem zdraw {lo : List Oper} (z : Nat) (hm : P.follows .mixedOrders = true) (hd : lo.all noDef = true) (k : ZHold r n P w0 lo.toArray Q D z L lo.length (Array.replicate lo.length false) l L) :
  Hold w0 L ((Code.region id lo.toArray true).wpIn (fen r) n P Q (frd D l)) := fun w hw => by
 have h2 := anyz_in (r := r) (n := n) (by simpa using hd) _ _ _ _ (k _ hw.drew)
 refine wpIn_region_any hm ?_
 rw [List.size_toArray]
 exact h2
theorem z_take (i : Nat) (Ds : List Nat) (ho : nthP ops.toList i = some o) (hy : YieldsIf P ops (Keeps w0 A) o v (fr l)) (hA : ∀ c ∈ A, c ∈ L) (ht : takeB ops listed i = true) (hc : chkD ops z listed i Ds = true)
  (k : ZHold r n P w0 ops Q D z A fuel (listed.setIfInBounds i true) (setd l o.dst v) L) : ZHold r n P w0 ops Q D z A (fuel + 1) listed l L := fun w hw => by
 simp only [takeB, Bool.and_eq_true] at ht
 refine wpAnyZ_mem (opAt ho) (Region.noSelect_spec ht.1) (fun _ _ _ h => (show False from h).elim) fuel listed _ w (Region.free_spec (opAt ho) ht.2.1) (chkD_spec hc) (by simpa using ht.2.2) hy ⟨L, hA, hw⟩ ?_
 rw [fr_put]
 exact k w hw
theorem nC (i : Nat) (Ds : List Nat) (ho : nthP ops.toList i = some o) (h : Pure P o l v) (hA : ∀ c ∈ A, c ∈ L) (ht : takeB ops listed i = true) (hc : chkD ops z listed i Ds = true) (hg : wantL ops.toList l o.guard = true)
  (k : ZHold r n P w0 ops Q D z A fuel (listed.setIfInBounds i true) (setd l o.dst v) L) : ZHold r n P w0 ops Q D z A (fuel + 1) listed l L :=
 z_take i Ds ho (.inl ⟨by rw [wanted_eq]; exact hg, fun w' _ => by rw [fr_eval]; exact h w'⟩) hA ht hc k
theorem z_mem (i : Nat) (Ds : List Nat) (ho : nthP ops.toList i = some o) (h : Sil P w0 A o l v) (hA : ∀ c ∈ A, c ∈ L) (ht : takeB ops listed i = true) (hc : chkD ops z listed i Ds = true) (hg : wantL ops.toList l o.guard = true)
  (k : ZHold r n P w0 ops Q D z A fuel (listed.setIfInBounds i true) (setd l o.dst v) L) : ZHold r n P w0 ops Q D z A (fuel + 1) listed l L :=
 z_take i Ds ho (.inl ⟨by rw [wanted_eq]; exact hg, fun w' ⟨F, hF, hw'⟩ => by rw [fr_eval]; exact h F w' hF hw'⟩) hA ht hc k
theorem z_skip (i : Nat) (Ds : List Nat) (ho : nthP ops.toList i = some o) (hA : ∀ c ∈ A, c ∈ L) (ht : takeB ops listed i = true) (hc : chkD ops z listed i Ds = true) (hg : wantL ops.toList l o.guard = false)
  (k : ZHold r n P w0 ops Q D z A fuel (listed.setIfInBounds i true) (setd l o.dst undef) L) : ZHold r n P w0 ops Q D z A (fuel + 1) listed l L :=
 z_take i Ds ho (.inr ⟨by rw [wanted_eq]; exact hg, rfl⟩) hA ht hc k
theorem z_loud {ρ : Type} {ok : ρ → Prop} {val : ρ → Value} {Dd : ρ → List Chunk} (i : Nat) (hiz : Nat.beq i z = false) (ho : nthP ops.toList i = some o) (h : Loud P w0 L o l ok val Dd) (hA : ∀ c ∈ A, c ∈ L) (hr : Region.ready .any ops listed = [i]) (hg : wantL ops.toList l o.guard = true)
  (k : ∀ r', ok r' → ZHold r n P w0 ops Q D z A fuel (listed.setIfInBounds i true) (setd l o.dst (val r')) (Dd r' ++ L)) : ZHold r n P w0 ops Q D z A (fuel + 1) listed l L := fun w hw => by
 refine ⟨fun h0 => (by rw [hr] at h0; cases h0), fun j hj => ?_⟩
 rw [hr] at hj
 simp at hj
 subst hj
 refine ⟨fun e => (by subst e; simp at hiz), fun _ => ?_⟩
 have ho' := opAt ho
 have hg' : Region.wanted o (yielded ops (fr l).tmps) = true := by rw [wanted_eq]; exact hg
 unfold wpOp
 simp only [ho', hg', if_true]
 refine .inl (h L w (fun _ h => h) hw _ _ ?_)
 rintro v w' ⟨r', hr', rfl, hst⟩
 exact ⟨fun _ => ⟨_, fun c hc => List.mem_append_right _ (hA c hc), hst⟩, k r' hr' w' hst⟩
theorem z_call (i : Nat) (hiz : Nat.beq i z = false) (ho : nthP ops.toList i = some o) (h : Loud P w0 L o l (fun _ : Unit => True) (fun _ => v) (fun _ => [])) (hA : ∀ c ∈ A, c ∈ L) (hr : Region.ready .any ops listed = [i]) (hg : wantL ops.toList l o.guard = true)
  (k : ZHold r n P w0 ops Q D z A fuel (listed.setIfInBounds i true) (setd l o.dst v) L) : ZHold r n P w0 ops Q D z A (fuel + 1) listed l L :=
 z_loud i hiz ho h hA hr hg fun _ _ => k
theorem zsplit {b : Bool} (t : Nat) (hb : nth l t = .bool b) (kt : b = true → ZHold r n P w0 ops Q D z A fuel listed (setn l t (.bool true)) L) (kf : b = false → ZHold r n P w0 ops Q D z A fuel listed (setn l t (.bool false)) L) : ZHold r n P w0 ops Q D z A fuel listed l L := by
 cases b with
 | true => have h := kt rfl; rw [← hb, setn_self] at h; exact h
 | false => have h := kf rfl; rw [← hb, setn_self] at h; exact h
def YHold (r : Option Nat) (n : Nat) (P : Program) (w0 : World) (ops : Array Oper) (Q : Exit → Act → World → Prop) (D : List Deferred) (fuel : Nat) (listed : Array Bool) (l : List Value) (L : List Chunk) : Prop :=
 ∀ w, St w0 L w → wpAnyIn (fen r) n P .any ops Q fuel listed (frd D l) w
theorem z_at (hr : Region.ready .any ops listed = [z]) (h : Hold w0 L (fun w => wpOpIn (fen r) n P ops Q z (wpAnyIn (fen r) n P .any ops Q fuel (listed.setIfInBounds z true)) (frd D l) w)) : ZHold r n P w0 ops Q D z A (fuel + 1) listed l L := fun w hw => by
 refine ⟨fun h0 => (by rw [hr] at h0; cases h0), fun j hj => ?_⟩
 rw [hr] at hj
 simp at hj
 subst hj
 exact ⟨fun _ => h w hw, fun h => absurd rfl h⟩
theorem z_none (ho : nthP ops.toList z = some o) (hr : Region.ready .any ops listed = [z]) (hg : wantL ops.toList l o.guard = false) (k : YHold r n P w0 ops Q D fuel (listed.setIfInBounds z true) (setd l o.dst undef) L) : ZHold r n P w0 ops Q D z A (fuel + 1) listed l L :=
 z_at hr fun w hw => by
  have ho' := opAt ho
  have hy : Region.wanted o (yielded ops (frd D l).tmps) = wantL ops.toList l o.guard := wanted_eq ops l o
  unfold wpOpIn
  simp only [ho', hy, hg]
  refine ⟨fun _ _ => trivial, ?_⟩
  rw [frd_put]
  exact k w hw
theorem z_yield {d : Option Tmp} {ty : TypeId} {ps : String} {af : Array Edge} {g : Option (Nat × Bool)} {x y : Operand} {lr : Nat} {u : Value} {ts : Array TypeId} {post : World → Bool → World → Prop} (ho : nthP ops.toList z = some ⟨d, .call { callee := .value x, args := #[y], argTypes := ts }, ty, ps, af, g⟩)
  (hx : ev l x = .func (.yield lr) #[] #[]) (hy : ev l y = u) (hr : Region.ready .any ops listed = [z]) (hg : wantL ops.toList l g = true) (hc : ∀ w, St w0 L w → YieldAt (fen none) 0 P lr #[u] w (fun e w' => ∃ b, e = .returned (.bool b) ∧ post w b w'))
  (k : ∀ w, St w0 L w → ∀ b w', post w b w' → YHold r n P w' ops Q D fuel (listed.setIfInBounds z true) (setd l d (.bool b)) []) : ZHold r n P w0 ops Q D z A (fuel + 1) listed l L :=
 z_at hr fun w hw => by
  have ho' := opAt ho
  have hyl : Region.wanted ⟨d, .call { callee := .value x, args := #[y], argTypes := ts }, ty, ps, af, g⟩ (yielded ops (frd D l).tmps) = wantL ops.toList l g := wanted_eq ops l _
  unfold wpOpIn
  simp only [ho', hyl, hg, if_true]
  refine ⟨fun _ _ => trivial, ?_⟩
  have hs : (⟨d, .call { callee := .value x, args := #[y], argTypes := ts }, ty, ps, af, g⟩ : Oper).semAt (fen r).round (frd D l).eval = execOp (ev l) ⟨d, .call { callee := .value x, args := #[y], argTypes := ts }, ty, ps, af, g⟩ := by
   rw [frd_eval]
   cases r with
   | none => rfl
   | some l' => exact Oper.semAt_some l' (ev l) _ (fun c hc => by cases hc)
  obtain ⟨fn, tmps, assign, body, hrun, hround⟩ := hc w hw
  rw [hs]
  have hexec : (execOp (ev l) ⟨d, .call { callee := .value x, args := #[y], argTypes := ts }, ty, ps, af, g⟩).run P w = .ok (.round lr fn tmps assign body) w := by
   simp [execOp, resolve, hx, hy, Deferred.ofValue, Sem.run_bind, Sem.run_pure, Result.andThen_ok, invoke, hrun]
  rw [hexec]
  refine ⟨fun h => (by cases h), (round_fen hround).mono ?_⟩
  rintro e w' ⟨b, rfl, h⟩
  show wpAnyIn (fen r) n P .any ops Q fuel (listed.setIfInBounds z true) ((frd D l).put d (.bool b)) w'
  rw [frd_put]
  exact k w hw b w' h w' (St.start w')
theorem y_pure (i : Nat) (ho : nthP ops.toList i = some o) (hr : Region.ready .any ops listed = [i]) (h : Pure P o l v) (hd : noDef o = true) (hg : wantL ops.toList l o.guard = true) (k : YHold r n P w0 ops Q D fuel (listed.setIfInBounds i true) (setd l o.dst v) L) : YHold r n P w0 ops Q D (fuel + 1) listed l L := fun w hw => by
 refine ⟨fun h0 => (by rw [hr] at h0; cases h0), fun j hj => ?_⟩
 rw [hr] at hj
 simp at hj
 subst hj
 have ho' := opAt ho
 have hy : Region.wanted o (yielded ops (frd D l).tmps) = wantL ops.toList l o.guard := wanted_eq ops l o
 unfold wpOpIn
 simp only [ho', hy, hg, if_true]
 refine op_in (D := D) (Q := fun _ _ _ => True) (K := fun a w' => a = fr (setd l o.dst v) ∧ w' = w) hd ?_ (OpT.of_run (h w) (R := fun v' w' => v' = v ∧ w' = w) ⟨rfl, rfl⟩ _ _ (fun v' w' hR => ⟨by rw [hR.1], hR.2⟩))
 rintro a w' ⟨rfl, rfl⟩
 exact k _ hw
theorem y_skip (i : Nat) (ho : nthP ops.toList i = some o) (hr : Region.ready .any ops listed = [i]) (hg : wantL ops.toList l o.guard = false) (k : YHold r n P w0 ops Q D fuel (listed.setIfInBounds i true) (setd l o.dst undef) L) : YHold r n P w0 ops Q D (fuel + 1) listed l L := fun w hw => by
 refine ⟨fun h0 => (by rw [hr] at h0; cases h0), fun j hj => ?_⟩
 rw [hr] at hj
 simp at hj
 subst hj
 have ho' := opAt ho
 have hy : Region.wanted o (yielded ops (frd D l).tmps) = wantL ops.toList l o.guard := wanted_eq ops l o
 unfold wpOpIn
 simp only [ho', hy, hg]
 refine ⟨fun _ _ => trivial, ?_⟩
 rw [frd_put]
 exact k w hw
theorem y_done (hr : Region.ready .any ops listed = []) (k : Hold w0 L (Q .normal (frd D l))) : YHold r n P w0 ops Q D fuel listed l L := fun w hw => by
 cases fuel with
 | zero => exact ⟨hr, k w hw⟩
 | succ n => exact ⟨fun _ => k w hw, fun j hj => by rw [hr] at hj; cases hj⟩
end
end Go.R

namespace Go.R
open Go.RowKit Go.K
def dfs (bs : List Nat) : Chunk where
 foot := fun k => k ∈ bs
 holds := fun w => bs.Nodup ∧ ∀ b ∈ bs, w.heap[b]? = some (.deferred (some []))
 loc := fun _ _ h hk => ⟨h.1, fun b hb => (hk b hb).trans (h.2 b hb)⟩
 live := fun _ k h hk => lt_of_some (h.2 k hk)
abbrev marks (bs : List Nat) : List Deferred := bs.map mark
section
variable {r : Option Nat} {n : Nat} {P : Program} {w0 : World} {L L0 : List Chunk} {Q : Exit → Act → World → Prop} {l : List Value} {x : Code} {bs : List Nat} {b : Nat} {fn : Func} {R : Ending → World → Prop} {v : Value}
theorem markJ {G : Act → World → Prop} (hs : ∀ w, St w0 L0 w → St w0 (L ++ [dfs bs, dfr b]) w) (k : Hold w0 (L ++ [dfs (b :: bs)]) (G (frd (marks (b :: bs)) l))) : Hold w0 L0 (G (frd (mark b :: marks bs) l)) := fun w hw0 => by
 have hw := hs w hw0
 have hp := List.pairwise_append.1 hw.2.2
 refine k w ⟨hw.1, fun c hc => ?_, List.pairwise_append.2 ⟨hp.1, by simp, fun c hc d hd q hk hk' => ?_⟩⟩
 ·rcases List.mem_append.1 hc with hc | hc
  ·exact hw.2.1 c (by simp [hc])
  ·simp at hc; subst hc
   have h1 := hw.2.1 (dfs bs) (by simp)
   have h2 := hw.2.1 (dfr b) (by simp)
   have hne : b ∉ bs := fun hb => (List.pairwise_cons.1 hp.2.1).1 (dfr b) (by simp) b hb rfl
   refine ⟨⟨List.nodup_cons.2 ⟨hne, h1.1.1⟩, fun i hi => ?_⟩, fun i hi => ?_⟩
   ·rcases List.mem_cons.1 hi with rfl | hi
    ·exact h2.1
    ·exact h1.1.2 i hi
   ·rcases List.mem_cons.1 hi with rfl | hi
    ·exact h2.2 _ rfl
    ·exact h1.2 i hi
 ·simp at hd; subst hd
  rcases List.mem_cons.1 hk' with e | hi
  ·exact hp.2.2 c hc (dfr b) (by simp) _ hk e
  ·exact hp.2.2 c hc (dfs bs) (by simp) _ hk hi
theorem no_marks {w : World} (h : St w0 L w) : St w0 (L ++ [dfs []]) w :=
 ⟨h.1, fun c hc => by
  rcases List.mem_append.1 hc with hc | hc
  ·exact h.2.1 c hc
  ·simp at hc; subst hc; exact ⟨by simp [dfs], by simp [dfs]⟩, List.pairwise_append.2 ⟨h.2.2, by simp, fun c _ d hd k _ hk' => by simp at hd; subst hd; simp [dfs] at hk'⟩⟩
def RoundEndD (w0 : World) (J : List Value → List Chunk → Prop) (μ : List Value → Nat) (wi wr : List Nat) (l0 vi : List Value) : Act → World → Prop :=
 fun a w => ∃ vi' vr' L'' bs', a = frd (marks bs') (setF vr' (setM l0 wi vi') wr) ∧ J vi' L'' ∧ μ vi' < μ vi ∧ St w0 (L'' ++ [dfs bs']) w
theorem loopD (wi wr : List Nat) (J : List Value → List Chunk → Prop) (μ : List Value → Nat) (h0 : J (wi.map (nth l)) L)
  (round : ∀ vi vr L' bs, J vi L' → Hold w0 (L' ++ [dfs bs]) (x.wpIn (fen r) n P (Exit.then (RoundEndD w0 J μ wi wr l vi) Q) (frd (marks bs) (setF vr (setM l wi vi) wr)))) :
  Hold w0 L ((Code.loop x).wpIn (fen r) n P Q (frd [] l)) := by
 intro w hw
 refine wpIn_loop_ghost (fun n a w => ∃ vi vr L' bs, a = frd (marks bs) (setF vr (setM l wi vi) wr) ∧ J vi L' ∧ μ vi = n ∧ St w0 (L' ++ [dfs bs]) w) _ ⟨_, nth l, L, [], by rw [setM_self, setF_self]; rfl, h0, rfl, no_marks hw⟩ ?_
 rintro n a w ⟨vi, vr, L1, bs, rfl, hJ, rfl, hst⟩
 refine wpIn_mono (round vi vr L1 bs hJ w hst) (fun e a' w' hq => ?_)
 cases e with
 | normal =>
  obtain ⟨vi', vr', L2, bs', rfl, hJ', hlt, hst'⟩ := hq
  exact ⟨_, hlt, vi', vr', L2, bs', rfl, hJ', rfl, hst'⟩
 | _ => exact hq
theorem round_endD {J : List Value → List Chunk → Prop} {μ : List Value → Nat} {wi wr : List Nat} {vi l0 : List Value} {L'' : List Chunk} (vi' : List Value) (hJ : J vi' L'') (hμ : μ vi' < μ vi) (hs : List.Sublist (L'' ++ [dfs bs]) L) (he : l = setF (nth l) (setM l0 wi vi') wr) :
  Hold w0 L (Exit.then (RoundEndD w0 J μ wi wr l0 vi) Q .normal (frd (marks bs) l)) := fun w hw =>
 ⟨vi', nth l, L'', bs, by rw [← he], hJ, hμ, hw.sub hs⟩
theorem dfs_drop {w : World} (b : Nat) (hw : St w0 (L ++ [dfs (b :: bs)]) w) (hn : b ∉ bs) : St w0 (L ++ [dfs bs]) (w.putObj b (.deferred none)) := by
 refine hw.upd (row := some b) ⟨L, [], rfl, rfl⟩ (grownBy_putObj' w b _) (fun k hk => by cases hk; exact List.mem_cons_self) ?_ (fun k hk => .inl (List.mem_cons_of_mem _ hk))
 have h1 := (hw.2.1 (dfs (b :: bs)) (by simp)).1
 refine ⟨(List.nodup_cons.1 h1.1).2, fun i hi => ?_⟩
 rw [World.putObj_heap_other (fun e => hn (by first | exact e ▸ hi | exact e.symm ▸ hi))]
 exact h1.2 i (List.mem_cons_of_mem _ hi)
theorem leavesD (hr : ∀ w, St w0 L w → (results fn l.toArray).run P w = .ok v w) (k : Hold w0 L (R (.returned v))) : ∀ (bs : List Nat) (w : World), St w0 (L ++ [dfs bs]) w → LeavesInM (fen none) 0 P fn l.toArray R (marks bs) .returning w
 | [], w, hw => ⟨v, hr w (hw.sub (by simp)), k w (hw.sub (by simp))⟩
 | b :: bs, w, hw => by
  have h0 := (hw.2.1 (dfs (b :: bs)) (by simp)).1
  have h1 : w.heap[b]? = some (.deferred (some [])) := h0.2 b List.mem_cons_self
  have hn' := List.nodup_cons.1 h0.1
  exact ⟨by simp, .inl ⟨b, _, rfl, run_takeDeferred h1, leavesD hr k bs _ (dfs_drop b hw hn'.1)⟩⟩
theorem draw_take {id : Nat} {D : List Deferred} {lo : List Oper} (m : Nat) (bl : List Nat) (hm : P.follows .mixedOrders = true) (hd : lo.all noDef = true) (k : DHold P w0 lo.toArray (onlyN D Q) (L.take m) bl lo.length (Array.replicate lo.length false) l L) : Hold w0 L ((Code.region id lo.toArray true).wpIn (fen r) n P Q (frd D l)) := draw_A (L.take m) bl hm hd k
theorem end_retD {L' : List Chunk} (hL : L' = L'.dropLast ++ [dfs bs]) (hr : ∀ w, St w0 L'.dropLast w → (results fn l.toArray).run P w = .ok v w) (k : Hold w0 L'.dropLast (R (.returned v))) : Hold w0 L' (bodyPostM (fen none) 0 P fn R .ret (frd (marks bs) l)) := by
 rw [hL]; exact fun w hw => leavesD hr k bs w hw
theorem fixN : ∀ c ∈ ([] : List Chunk), ∃ b t cs, c = blk b t cs := by simp
theorem fixC {F : List Chunk} {b : Nat} {t : TypeId} {cs : List Value} (h : ∀ c ∈ F, ∃ b t cs, c = blk b t cs) : ∀ c ∈ blk b t cs :: F, ∃ b t cs, c = blk b t cs := fun c hc => by
 rcases List.mem_cons.1 hc with rfl | hc
 ·exact ⟨_, _, _, rfl⟩
 ·exact h c hc
end
end Go.R
end
section
namespace Go.Proofs.YtnhhfkgldoeifaaGreatDoor
open Go
theorem uA : Tryz.prog.follows .mixedOrders = true := by kernel_rfl
theorem pC : K.ag Tryz.prog 105 = some 6 := by kernel_rfl
theorem ag_110 : K.ag Tryz.prog 110 = some 2 := by kernel_rfl
theorem ag_117 : K.ag Tryz.prog 117 = some 3 := by kernel_rfl
theorem ag_25 : K.ag Tryz.prog 25 = some 3 := by kernel_rfl
theorem cC : K.ag Tryz.prog 30 = some 5 := by kernel_rfl
theorem kC : K.ag Tryz.prog 46 = some 2 := by kernel_rfl
theorem ag_48 : K.ag Tryz.prog 48 = some 5 := by kernel_rfl
theorem ag_58 : K.ag Tryz.prog 58 = some 5 := by kernel_rfl
theorem ag_62 : K.ag Tryz.prog 62 = some 4 := by kernel_rfl
theorem uC : K.ag Tryz.prog 94 = some 81 := by kernel_rfl
theorem ar_105 : K.ar Tryz.prog 105 = some (6, 3, 1) := by kernel_rfl
theorem ar_106 : K.ar Tryz.prog 106 = some (64, 3, 1) := by kernel_rfl
theorem ar_212 : K.ar Tryz.prog 212 = some (64, 5, 1) := by kernel_rfl
theorem ar_32 : K.ar Tryz.prog 32 = some (2, 5, 1) := by kernel_rfl
theorem ar_92 : K.ar Tryz.prog 92 = some (9, 3, 1) := by kernel_rfl
theorem ar_94 : K.ar Tryz.prog 94 = some (9, 92, 9) := by kernel_rfl
theorem cal_10 : K.callable Tryz.prog 10 = true := by kernel_rfl
theorem cal_100 : K.callable Tryz.prog 100 = true := by kernel_rfl
theorem cal_101 : K.callable Tryz.prog 101 = true := by kernel_rfl
theorem cal_102 : K.callable Tryz.prog 102 = true := by kernel_rfl
theorem cal_103 : K.callable Tryz.prog 103 = true := by kernel_rfl
theorem cal_104 : K.callable Tryz.prog 104 = true := by kernel_rfl
theorem cal_107 : K.callable Tryz.prog 107 = true := by kernel_rfl
theorem cal_108 : K.callable Tryz.prog 108 = true := by kernel_rfl
theorem cal_109 : K.callable Tryz.prog 109 = true := by kernel_rfl
theorem cal_11 : K.callable Tryz.prog 11 = true := by kernel_rfl
theorem cal_112 : K.callable Tryz.prog 112 = true := by kernel_rfl
theorem cal_113 : K.callable Tryz.prog 113 = true := by kernel_rfl
theorem cal_114 : K.callable Tryz.prog 114 = true := by kernel_rfl
theorem cal_115 : K.callable Tryz.prog 115 = true := by kernel_rfl
theorem cal_118 : K.callable Tryz.prog 118 = true := by kernel_rfl
theorem cal_119 : K.callable Tryz.prog 119 = true := by kernel_rfl
theorem cal_12 : K.callable Tryz.prog 12 = true := by kernel_rfl
theorem cal_120 : K.callable Tryz.prog 120 = true := by kernel_rfl
theorem cal_121 : K.callable Tryz.prog 121 = true := by kernel_rfl
theorem cal_122 : K.callable Tryz.prog 122 = true := by kernel_rfl
theorem cal_123 : K.callable Tryz.prog 123 = true := by kernel_rfl
theorem cal_125 : K.callable Tryz.prog 125 = true := by kernel_rfl
theorem cal_126 : K.callable Tryz.prog 126 = true := by kernel_rfl
theorem cal_13 : K.callable Tryz.prog 13 = true := by kernel_rfl
theorem cal_131 : K.callable Tryz.prog 131 = true := by kernel_rfl
theorem cal_136 : K.callable Tryz.prog 136 = true := by kernel_rfl
theorem cal_137 : K.callable Tryz.prog 137 = true := by kernel_rfl
theorem cal_14 : K.callable Tryz.prog 14 = true := by kernel_rfl
theorem cal_148 : K.callable Tryz.prog 148 = true := by kernel_rfl
theorem cal_15 : K.callable Tryz.prog 15 = true := by kernel_rfl
theorem cal_16 : K.callable Tryz.prog 16 = true := by kernel_rfl
theorem cal_17 : K.callable Tryz.prog 17 = true := by kernel_rfl
theorem cal_18 : K.callable Tryz.prog 18 = true := by kernel_rfl
theorem cal_19 : K.callable Tryz.prog 19 = true := by kernel_rfl
theorem cal_20 : K.callable Tryz.prog 20 = true := by kernel_rfl
theorem cal_21 : K.callable Tryz.prog 21 = true := by kernel_rfl
theorem cal_22 : K.callable Tryz.prog 22 = true := by kernel_rfl
theorem cal_23 : K.callable Tryz.prog 23 = true := by kernel_rfl
theorem cal_24 : K.callable Tryz.prog 24 = true := by kernel_rfl
theorem cal_25 : K.callable Tryz.prog 25 = true := by kernel_rfl
theorem cal_26 : K.callable Tryz.prog 26 = true := by kernel_rfl
theorem cal_27 : K.callable Tryz.prog 27 = true := by kernel_rfl
theorem cal_28 : K.callable Tryz.prog 28 = true := by kernel_rfl
theorem cal_29 : K.callable Tryz.prog 29 = true := by kernel_rfl
theorem cal_30 : K.callable Tryz.prog 30 = true := by kernel_rfl
theorem cal_31 : K.callable Tryz.prog 31 = true := by kernel_rfl
theorem cal_32 : K.callable Tryz.prog 32 = true := by kernel_rfl
theorem cal_33 : K.callable Tryz.prog 33 = true := by kernel_rfl
theorem cal_34 : K.callable Tryz.prog 34 = true := by kernel_rfl
theorem cal_35 : K.callable Tryz.prog 35 = true := by kernel_rfl
theorem cal_36 : K.callable Tryz.prog 36 = true := by kernel_rfl
theorem cal_37 : K.callable Tryz.prog 37 = true := by kernel_rfl
theorem cal_38 : K.callable Tryz.prog 38 = true := by kernel_rfl
theorem cal_39 : K.callable Tryz.prog 39 = true := by kernel_rfl
theorem cal_4 : K.callable Tryz.prog 4 = true := by kernel_rfl
theorem cal_40 : K.callable Tryz.prog 40 = true := by kernel_rfl
theorem cal_41 : K.callable Tryz.prog 41 = true := by kernel_rfl
theorem cal_42 : K.callable Tryz.prog 42 = true := by kernel_rfl
theorem cal_43 : K.callable Tryz.prog 43 = true := by kernel_rfl
theorem cal_44 : K.callable Tryz.prog 44 = true := by kernel_rfl
theorem cal_45 : K.callable Tryz.prog 45 = true := by kernel_rfl
theorem cal_46 : K.callable Tryz.prog 46 = true := by kernel_rfl
theorem cal_47 : K.callable Tryz.prog 47 = true := by kernel_rfl
theorem cal_48 : K.callable Tryz.prog 48 = true := by kernel_rfl
theorem cal_49 : K.callable Tryz.prog 49 = true := by kernel_rfl
theorem cal_5 : K.callable Tryz.prog 5 = true := by kernel_rfl
theorem cal_50 : K.callable Tryz.prog 50 = true := by kernel_rfl
theorem cal_51 : K.callable Tryz.prog 51 = true := by kernel_rfl
theorem cal_52 : K.callable Tryz.prog 52 = true := by kernel_rfl
theorem cal_53 : K.callable Tryz.prog 53 = true := by kernel_rfl
theorem cal_54 : K.callable Tryz.prog 54 = true := by kernel_rfl
theorem cal_55 : K.callable Tryz.prog 55 = true := by kernel_rfl
theorem cal_56 : K.callable Tryz.prog 56 = true := by kernel_rfl
theorem cal_57 : K.callable Tryz.prog 57 = true := by kernel_rfl
theorem cal_58 : K.callable Tryz.prog 58 = true := by kernel_rfl
theorem cal_59 : K.callable Tryz.prog 59 = true := by kernel_rfl
theorem cal_6 : K.callable Tryz.prog 6 = true := by kernel_rfl
theorem cal_60 : K.callable Tryz.prog 60 = true := by kernel_rfl
theorem cal_61 : K.callable Tryz.prog 61 = true := by kernel_rfl
theorem cal_62 : K.callable Tryz.prog 62 = true := by kernel_rfl
theorem cal_63 : K.callable Tryz.prog 63 = true := by kernel_rfl
theorem cal_64 : K.callable Tryz.prog 64 = true := by kernel_rfl
theorem cal_66 : K.callable Tryz.prog 66 = true := by kernel_rfl
theorem cal_67 : K.callable Tryz.prog 67 = true := by kernel_rfl
theorem cal_68 : K.callable Tryz.prog 68 = true := by kernel_rfl
theorem cal_69 : K.callable Tryz.prog 69 = true := by kernel_rfl
theorem cal_7 : K.callable Tryz.prog 7 = true := by kernel_rfl
theorem cal_70 : K.callable Tryz.prog 70 = true := by kernel_rfl
theorem cal_71 : K.callable Tryz.prog 71 = true := by kernel_rfl
theorem cal_72 : K.callable Tryz.prog 72 = true := by kernel_rfl
theorem cal_73 : K.callable Tryz.prog 73 = true := by kernel_rfl
theorem cal_74 : K.callable Tryz.prog 74 = true := by kernel_rfl
theorem cal_75 : K.callable Tryz.prog 75 = true := by kernel_rfl
theorem cal_76 : K.callable Tryz.prog 76 = true := by kernel_rfl
theorem cal_77 : K.callable Tryz.prog 77 = true := by kernel_rfl
theorem cal_78 : K.callable Tryz.prog 78 = true := by kernel_rfl
theorem cal_79 : K.callable Tryz.prog 79 = true := by kernel_rfl
theorem cal_8 : K.callable Tryz.prog 8 = true := by kernel_rfl
theorem cal_80 : K.callable Tryz.prog 80 = true := by kernel_rfl
theorem cal_81 : K.callable Tryz.prog 81 = true := by kernel_rfl
theorem cal_82 : K.callable Tryz.prog 82 = true := by kernel_rfl
theorem cal_83 : K.callable Tryz.prog 83 = true := by kernel_rfl
theorem cal_84 : K.callable Tryz.prog 84 = true := by kernel_rfl
theorem cal_85 : K.callable Tryz.prog 85 = true := by kernel_rfl
theorem cal_86 : K.callable Tryz.prog 86 = true := by kernel_rfl
theorem cal_87 : K.callable Tryz.prog 87 = true := by kernel_rfl
theorem cal_88 : K.callable Tryz.prog 88 = true := by kernel_rfl
theorem cal_89 : K.callable Tryz.prog 89 = true := by kernel_rfl
theorem cal_9 : K.callable Tryz.prog 9 = true := by kernel_rfl
theorem cal_90 : K.callable Tryz.prog 90 = true := by kernel_rfl
theorem cal_91 : K.callable Tryz.prog 91 = true := by kernel_rfl
theorem cal_92 : K.callable Tryz.prog 92 = true := by kernel_rfl
theorem cal_93 : K.callable Tryz.prog 93 = true := by kernel_rfl
theorem cal_94 : K.callable Tryz.prog 94 = true := by kernel_rfl
theorem cal_95 : K.callable Tryz.prog 95 = true := by kernel_rfl
theorem cal_96 : K.callable Tryz.prog 96 = true := by kernel_rfl
theorem cal_97 : K.callable Tryz.prog 97 = true := by kernel_rfl
theorem cal_98 : K.callable Tryz.prog 98 = true := by kernel_rfl
theorem cal_99 : K.callable Tryz.prog 99 = true := by kernel_rfl
theorem el_22 : K.el Tryz.prog 22 = some (9, 1, 16) := by kernel_rfl
theorem el_23 : K.el Tryz.prog 23 = some (58, 5, 40) := by kernel_rfl
theorem el_26 : K.el Tryz.prog 26 = some (3, 1, 8) := by kernel_rfl
theorem el_27 : K.el Tryz.prog 27 = some (48, 5, 48) := by kernel_rfl
theorem el_41 : K.el Tryz.prog 41 = some (46, 2, 16) := by kernel_rfl
theorem fo_108_0 : K.fo Tryz.prog 108 0 = some 0 := by kernel_rfl
theorem fo_108_1 : K.fo Tryz.prog 108 1 = some 5 := by kernel_rfl
theorem fo_108_2 : K.fo Tryz.prog 108 2 = some 11 := by kernel_rfl
theorem fo_108_3 : K.fo Tryz.prog 108 3 = some 75 := by kernel_rfl
theorem fo_110_0 : K.fo Tryz.prog 110 0 = some 0 := by kernel_rfl
theorem fo_110_1 : K.fo Tryz.prog 110 1 = some 1 := by kernel_rfl
theorem fo_117_0 : K.fo Tryz.prog 117 0 = some 0 := by kernel_rfl
theorem fo_141_0 : K.fo Tryz.prog 141 0 = some 0 := by kernel_rfl
theorem fo_141_1 : K.fo Tryz.prog 141 1 = some 1 := by kernel_rfl
theorem fo_141_2 : K.fo Tryz.prog 141 2 = some 2 := by kernel_rfl
theorem fo_167_0 : K.fo Tryz.prog 167 0 = some 0 := by kernel_rfl
theorem fo_167_1 : K.fo Tryz.prog 167 1 = some 1 := by kernel_rfl
theorem fo_167_2 : K.fo Tryz.prog 167 2 = some 2 := by kernel_rfl
theorem fo_25_0 : K.fo Tryz.prog 25 0 = some 0 := by kernel_rfl
theorem fo_25_1 : K.fo Tryz.prog 25 1 = some 1 := by kernel_rfl
theorem fo_25_2 : K.fo Tryz.prog 25 2 = some 2 := by kernel_rfl
theorem fo_30_0 : K.fo Tryz.prog 30 0 = some 0 := by kernel_rfl
theorem fo_30_1 : K.fo Tryz.prog 30 1 = some 1 := by kernel_rfl
theorem fo_30_2 : K.fo Tryz.prog 30 2 = some 2 := by kernel_rfl
theorem bC : K.fo Tryz.prog 30 3 = some 3 := by kernel_rfl
theorem fo_30_4 : K.fo Tryz.prog 30 4 = some 4 := by kernel_rfl
theorem fo_34_0 : K.fo Tryz.prog 34 0 = some 0 := by kernel_rfl
theorem fo_34_1 : K.fo Tryz.prog 34 1 = some 1 := by kernel_rfl
theorem fo_34_2 : K.fo Tryz.prog 34 2 = some 2 := by kernel_rfl
theorem fo_46_0 : K.fo Tryz.prog 46 0 = some 0 := by kernel_rfl
theorem fo_46_1 : K.fo Tryz.prog 46 1 = some 1 := by kernel_rfl
theorem fo_48_0 : K.fo Tryz.prog 48 0 = some 0 := by kernel_rfl
theorem fo_48_1 : K.fo Tryz.prog 48 1 = some 1 := by kernel_rfl
theorem fo_48_2 : K.fo Tryz.prog 48 2 = some 2 := by kernel_rfl
theorem fo_48_3 : K.fo Tryz.prog 48 3 = some 3 := by kernel_rfl
theorem fo_48_4 : K.fo Tryz.prog 48 4 = some 4 := by kernel_rfl
theorem fo_58_0 : K.fo Tryz.prog 58 0 = some 0 := by kernel_rfl
theorem fo_58_1 : K.fo Tryz.prog 58 1 = some 1 := by kernel_rfl
theorem fo_58_2 : K.fo Tryz.prog 58 2 = some 2 := by kernel_rfl
theorem fo_58_3 : K.fo Tryz.prog 58 3 = some 3 := by kernel_rfl
theorem fo_62_0 : K.fo Tryz.prog 62 0 = some 0 := by kernel_rfl
theorem fo_62_1 : K.fo Tryz.prog 62 1 = some 1 := by kernel_rfl
theorem fo_62_2 : K.fo Tryz.prog 62 2 = some 2 := by kernel_rfl
theorem ik_148 : K.ik Tryz.prog 148 = some .u64 := by kernel_rfl
theorem ik_152 : K.ik Tryz.prog 152 = some .u16 := by kernel_rfl
theorem ik_197 : K.ik Tryz.prog 197 = some .u64 := by kernel_rfl
theorem ik_3 : K.ik Tryz.prog 3 = some .i64 := by kernel_rfl
theorem ik_5 : K.ik Tryz.prog 5 = some .u8 := by kernel_rfl
theorem one_127 : K.one Tryz.prog 127 = true := by kernel_rfl
theorem one_151 : K.one Tryz.prog 151 = true := by kernel_rfl
theorem one_152 : K.one Tryz.prog 152 = true := by kernel_rfl
theorem one_156 : K.one Tryz.prog 156 = true := by kernel_rfl
theorem one_162 : K.one Tryz.prog 162 = true := by kernel_rfl
theorem one_22 : K.one Tryz.prog 22 = true := by kernel_rfl
theorem one_23 : K.one Tryz.prog 23 = true := by kernel_rfl
theorem gC : K.one Tryz.prog 26 = true := by kernel_rfl
theorem lC : K.one Tryz.prog 27 = true := by kernel_rfl
theorem one_28 : K.one Tryz.prog 28 = true := by kernel_rfl
theorem one_3 : K.one Tryz.prog 3 = true := by kernel_rfl
theorem one_31 : K.one Tryz.prog 31 = true := by kernel_rfl
theorem one_35 : K.one Tryz.prog 35 = true := by kernel_rfl
theorem qC : K.one Tryz.prog 4 = true := by kernel_rfl
theorem one_5 : K.one Tryz.prog 5 = true := by kernel_rfl
theorem one_9 : K.one Tryz.prog 9 = true := by kernel_rfl
theorem one_98 : K.one Tryz.prog 98 = true := by kernel_rfl
theorem sT_9 : K.sT Tryz.prog 9 = true := by kernel_rfl
theorem sl_22 : K.sl Tryz.prog 22 = some (9, 1) := by kernel_rfl
theorem sl_23 : K.sl Tryz.prog 23 = some (58, 5) := by kernel_rfl
theorem yB : K.sl Tryz.prog 26 = some (3, 1) := by kernel_rfl
theorem oC : K.sl Tryz.prog 27 = some (48, 5) := by kernel_rfl
theorem tC : K.sl Tryz.prog 28 = some (62, 4) := by kernel_rfl
theorem sl_31 : K.sl Tryz.prog 31 = some (152, 1) := by kernel_rfl
theorem sl_41 : K.sl Tryz.prog 41 = some (46, 2) := by kernel_rfl
theorem sz_105 : K.sz Tryz.prog 105 = some 6 := by kernel_rfl
theorem sz_110 : K.sz Tryz.prog 110 = some 2 := by kernel_rfl
theorem sz_141 : K.sz Tryz.prog 141 = some 3 := by kernel_rfl
theorem sz_156 : K.sz Tryz.prog 156 = some 1 := by kernel_rfl
theorem sz_162 : K.sz Tryz.prog 162 = some 1 := by kernel_rfl
theorem sz_167 : K.sz Tryz.prog 167 = some 3 := by kernel_rfl
theorem sz_22 : K.sz Tryz.prog 22 = some 1 := by kernel_rfl
theorem sz_23 : K.sz Tryz.prog 23 = some 1 := by kernel_rfl
theorem sz_25 : K.sz Tryz.prog 25 = some 3 := by kernel_rfl
theorem sz_26 : K.sz Tryz.prog 26 = some 1 := by kernel_rfl
theorem sz_27 : K.sz Tryz.prog 27 = some 1 := by kernel_rfl
theorem sz_3 : K.sz Tryz.prog 3 = some 1 := by kernel_rfl
theorem sz_30 : K.sz Tryz.prog 30 = some 5 := by kernel_rfl
theorem sz_35 : K.sz Tryz.prog 35 = some 1 := by kernel_rfl
theorem sz_4 : K.sz Tryz.prog 4 = some 1 := by kernel_rfl
theorem sz_46 : K.sz Tryz.prog 46 = some 2 := by kernel_rfl
theorem sz_48 : K.sz Tryz.prog 48 = some 5 := by kernel_rfl
theorem sz_58 : K.sz Tryz.prog 58 = some 5 := by kernel_rfl
theorem sz_62 : K.sz Tryz.prog 62 = some 4 := by kernel_rfl
theorem sz_94 : K.sz Tryz.prog 94 = some 81 := by kernel_rfl
theorem sz_98 : K.sz Tryz.prog 98 = some 1 := by kernel_rfl
theorem zr_105 : K.zr Tryz.prog 105 = some (.agg #[.int .i64 0, .int .i64 0, .int .i64 0, .int .i64 0, .int .i64 0, .int .i64 0]) := by kernel_rfl
theorem zr_110 : K.zr Tryz.prog 110 = some (.agg #[.int .i64 0, .int .i64 0]) := by kernel_rfl
theorem zr_141 : K.zr Tryz.prog 141 = some (.agg #[.int .i64 0, .int .i64 0, .int .i64 0]) := by kernel_rfl
theorem zr_156 : K.zr Tryz.prog 156 = some (.map none) := by kernel_rfl
theorem zr_162 : K.zr Tryz.prog 162 = some (.nilFunc) := by kernel_rfl
theorem zr_167 : K.zr Tryz.prog 167 = some (.agg #[.int .i64 0, .int .i64 0, .int .i64 0]) := by kernel_rfl
theorem zr_171 : K.zr Tryz.prog 171 = some (.agg #[.pointer none, .slice none 0 0]) := by kernel_rfl
theorem zr_25 : K.zr Tryz.prog 25 = some (.agg #[.int .i64 0, .slice none 0 0, .slice none 0 0]) := by kernel_rfl
theorem zr_26 : K.zr Tryz.prog 26 = some (.slice none 0 0) := by kernel_rfl
theorem zr_3 : K.zr Tryz.prog 3 = some (.int .i64 0) := by kernel_rfl
theorem zr_30 : K.zr Tryz.prog 30 = some (.agg #[.int .i64 0, .int .i64 0, .slice none 0 0, .slice none 0 0, .slice none 0 0]) := by kernel_rfl
theorem zr_35 : K.zr Tryz.prog 35 = some (.int .i64 0) := by kernel_rfl
theorem zr_4 : K.zr Tryz.prog 4 = some (.bool false) := by kernel_rfl
theorem zr_46 : K.zr Tryz.prog 46 = some (.agg #[.int .i64 0, .int .i64 0]) := by kernel_rfl
theorem zr_48 : K.zr Tryz.prog 48 = some (.agg #[.string ByteArray.empty, .int .i64 0, .int .i64 0, .int .i64 0, .int .i64 0]) := by kernel_rfl
theorem zr_58 : K.zr Tryz.prog 58 = some (.agg #[.int .i64 0, .int .i64 0, .int .i64 0, .int .i64 0, .int .i64 0]) := by kernel_rfl
theorem zr_62 : K.zr Tryz.prog 62 = some (.agg #[.int .i64 0, .int .i64 0, .int .i64 0, .int .i64 0]) := by kernel_rfl
theorem zr_94 : K.zr Tryz.prog 94 = some (.agg #[.int .i64 0, .int .i64 0, .int .i64 0, .int .i64 0, .int .i64 0, .int .i64 0, .int .i64 0, .int .i64 0, .int .i64 0, .int .i64 0, .int .i64 0, .int .i64 0, .int .i64 0, .int .i64 0, .int .i64 0, .int .i64 0, .int .i64 0, .int .i64 0, .int .i64 0, .int .i64 0, .int .i64 0, .int .i64 0, .int .i64 0, .int .i64 0, .int .i64 0, .int .i64 0, .int .i64 0, .int .i64 0, .int .i64 0, .int .i64 0, .int .i64 0, .int .i64 0, .int .i64 0, .int .i64 0, .int .i64 0, .int .i64 0, .int .i64 0, .int .i64 0, .int .i64 0, .int .i64 0, .int .i64 0, .int .i64 0, .int .i64 0, .int .i64 0, .int .i64 0, .int .i64 0, .int .i64 0, .int .i64 0, .int .i64 0, .int .i64 0, .int .i64 0, .int .i64 0, .int .i64 0, .int .i64 0, .int .i64 0, .int .i64 0, .int .i64 0, .int .i64 0, .int .i64 0, .int .i64 0, .int .i64 0, .int .i64 0, .int .i64 0, .int .i64 0, .int .i64 0, .int .i64 0, .int .i64 0, .int .i64 0, .int .i64 0, .int .i64 0, .int .i64 0, .int .i64 0, .int .i64 0, .int .i64 0, .int .i64 0, .int .i64 0, .int .i64 0, .int .i64 0, .int .i64 0, .int .i64 0, .int .i64 0]) := by kernel_rfl
theorem zr_98 : K.zr Tryz.prog 98 = some (.pointer none) := by kernel_rfl
end Go.Proofs.YtnhhfkgldoeifaaGreatDoor
end
section
namespace Go.Proofs.YtnhhfkgldoeifaaGreatDoor.Pn
open Go.RowKit Go
open Go.K (setd setn ev nth over cl eI eP eT setM setF)
attribute [local irreducible] K.blk K.row
theorem bs1 (a : Int) : K.Bs Tryz.prog 26 1 [(0, .int .i64 a)] 3 [.int .i64 a] := fun w => by kernel_rfl
theorem bs2 (a b : Int) : K.Bs Tryz.prog 26 2 [(0, .int .i64 a), (1, .int .i64 b)] 3 [.int .i64 a, .int .i64 b] := fun w => by kernel_rfl
theorem bl80 (a b : Int) : K.Bl Tryz.prog 110 [(0, .int .i64 a), (1, .int .i64 b)] (.agg #[.int .i64 a, .int .i64 b]) := fun w => by kernel_rfl
theorem name_f1 {s : ByteArray} (h : ¬ (1 ≤ (s.size : Int) ∧ (s.size : Int) ≤ 16)) : nameB s = false := by
 unfold nameB; rw [decide_eq_false (by omega)]; rfl
theorem name_f2 {s : ByteArray} {i : Nat} (hi : i < s.size) (h : okC i (K.bt s i) = false) : nameB s = false := by
 unfold nameB; rw [Bool.and_eq_false_iff]; right
 exact List.all_eq_false.2 ⟨i, List.mem_range.2 hi, by simp [h]⟩
theorem name_t {s : ByteArray} (h1 : 1 ≤ s.size ∧ s.size ≤ 16) (h : ∀ i, i < s.size → okC i (K.bt s i) = true) : nameB s = true := by
 unfold nameB; rw [decide_eq_true h1, Bool.true_and]
 exact List.all_eq_true.2 (fun i hi => h i (List.mem_range.1 hi))

set_option maxRecDepth 100000 in
theorem c57 {n a b : Int} (w : World) :
  Calls Tryz.prog 17 [.int .i64 n, .int .i64 a, .int .i64 b].toArray w (K.Gives (.bool (decide (a ≤ n ∧ n ≤ b))) w) := by
 refine K.enter (args := [.int .i64 n, .int .i64 a, .int .i64 b]) Tryz.func17 rfl (n := 12) rfl ?_
 refine zR ?_
 refine sr (qa ?_)
 refine sn (sr ?_)
 iterate 2 refine qm ?_
 refine qp (K.geq rfl rfl) ?_
 refine qm ?_
 refine K.split 10 rfl (fun hg10 => ?_) (fun hg10 => ?_)
 ·try replace hg10 := Kq.oT hg10
  iterate 2 refine qm ?_
  refine qp (K.leq rfl rfl) ?_
  refine qp (K.sA rfl) ?_
  refine qa ?_
  refine sn (K.ret (et ?_))
  exact K.pB rfl (by rw [eq_comm, decide_eq_decide.2 (by omega : (a ≤ n ∧ n ≤ b) ↔ n ≤ b)])
 try replace hg10 := Kq.oF hg10
 iterate 3 refine qs ?_
 refine qp (K.dB rfl) ?_
 refine qa ?_
 refine sn (K.ret (et ?_))
 exact K.pB rfl (by rw [eq_comm, decide_eq_false_iff_not]; omega)

set_option maxRecDepth 100000 in
theorem c106 {n a b : Int} (w : World) :
  Calls Tryz.prog 14 [.int .i64 n, .int .i64 a, .int .i64 b].toArray w (K.Gives (.bool (decide (a ≤ n ∧ n ≤ b))) w) := by
 refine K.enter (args := [.int .i64 n, .int .i64 a, .int .i64 b]) Tryz.func14 rfl (n := 12) rfl ?_
 refine zR ?_
 refine sr (qa ?_)
 refine sn (sr ?_)
 iterate 2 refine qm ?_
 refine qp (K.geq rfl rfl) ?_
 refine qm ?_
 refine K.split 10 rfl (fun hg10 => ?_) (fun hg10 => ?_)
 ·try replace hg10 := Kq.oT hg10
  iterate 2 refine qm ?_
  refine qp (K.leq rfl rfl) ?_
  refine qp (K.sA rfl) ?_
  refine qa ?_
  refine sn (K.ret (et ?_))
  exact K.pB rfl (by rw [eq_comm, decide_eq_decide.2 (by omega : (a ≤ n ∧ n ≤ b) ↔ n ≤ b)])
 try replace hg10 := Kq.oF hg10
 iterate 3 refine qs ?_
 refine qp (K.dB rfl) ?_
 refine qa ?_
 refine sn (K.ret (et ?_))
 exact K.pB rfl (by rw [eq_comm, decide_eq_false_iff_not]; omega)

set_option maxRecDepth 100000 in
theorem c90 {n lo hi : Int} {p q : Addr} {w : World} (hp : w.cell? p = some (.int .i64 lo)) (hq : w.cell? q = some (.int .i64 hi)) :
  Calls Tryz.prog 88 [.int .i64 n, .pointer (some p), .pointer (some q)].toArray w (K.Gives (.bool (decide (n < lo) || decide (n > hi))) w) := by
 refine K.enter (args := [.int .i64 n, .pointer (some p), .pointer (some q)]) Tryz.func88 rfl (n := 10) rfl ?_
 refine zR ?_
 refine sr (qa ?_)
 refine sn (sr (qm ?_))
 refine ql (K.load1 one_3 rfl ((K.PtrL.cell1 hp).any)) ?_
 refine qp (K.lss rfl rfl) ?_
 refine qm ?_
 refine K.split 8 rfl (fun hg8 => ?_) (fun hg8 => ?_)
 ·try replace hg8 := Kq.oT hg8
  iterate 3 refine qs ?_
  refine qp (K.sA rfl) ?_
  refine qa ?_
  refine sn (K.ret (et ?_))
  exact K.pB rfl (by simp [hg8])
 try replace hg8 := Kq.oF hg8
 refine qm ?_
 refine ql (K.load1 one_3 rfl ((K.PtrL.cell1 hq).any)) ?_
 refine qp (K.gtr rfl rfl) ?_
 refine qp (K.dB rfl) ?_
 refine qa ?_
 refine sn (K.ret (et ?_))
 exact K.pB rfl (by simp [hg8])

set_option maxRecDepth 100000 in
theorem c51 {A : Option Addr} {c f : Nat} {cap : List Value} {xs : List Int} {p : Int → Bool} {w : World} (hR : K.Rd w A 1 K.eI xs) (hn : xs.length ≤ 4611686018427387904) (hcal : K.callable Tryz.prog f = true) (hf : ∀ x ∈ xs, ∀ w1, Below w.heap.size w w1 → Calls Tryz.prog f ([Value.int .i64 x] ++ cap).toArray w1 (K.Gives (.bool (p x)) w1)) :
  Calls Tryz.prog 120 [.slice A xs.length c, .func (.func f) #[] cap.toArray].toArray w (K.Gives (.int .i64 (K.idx p xs)) w) := by
 refine K.enter (args := [.slice A xs.length c, .func (.func f) #[] cap.toArray]) Tryz.func120 rfl (n := 17) rfl ?_
 refine zR ?_
 refine sr (qa ?_)
 refine sn (K.seq (sr (qm ?_)))
 refine qp (K.aB yB rfl) ?_
 refine qm ?_
 refine sn (K.block ?_)
 refine K.loopW [8] [4, 5, 9, 10, 11, 12, 13, 14, 15, 16, 17, 18] (fun vi L => ∃ k : Nat, vi = [.int .i64 (k : Int)] ∧ L = [] ∧ k ≤ xs.length ∧ ∀ j, j < k → p (xs.getD j default) = false) (fun vi => xs.length - (intOf (K.nth vi 0)).toNat) ?_ ?_
 ·exact ⟨0, rfl, rfl, Nat.zero_le _, fun j hj => absurd hj (Nat.not_lt_zero j)⟩
 intro vi vr L hJ
 obtain ⟨k, rfl, rfl, hkn, hall⟩ := hJ
 refine zY ?_
 refine sr (qp (K.lss rfl rfl) ?_)
 refine sn (K.seq ?_)
 refine K.cond rfl (fun ht9 => ?_) (fun ht9 => ?_)
 ·try replace ht9 := Kq.oT ht9
  have hk : k < xs.length := by omega
  refine K.skip (K.dA (K.seq (K.block (sr (qm ?_)))))
  refine qa ?_
  refine sn (sr ?_)
  iterate 3 refine qm ?_
  refine K.vB (M := []) _ hR.sl yB rfl rfl rfl (by omega) rfl ?_
  intro p14 hp14
  refine zN ?_
  refine ql (K.load1 one_3 rfl (hp14.any)) ?_
  refine qc (K.callv_g (first := []) (cap := cap) rfl hcal (fun F w1 _ hw => hf _ (K.gt_mem hk) w1 hw.1)) ?_
  refine sn ?_
  refine K.cond rfl (fun ht16 => ?_) (fun ht16 => ?_)
  ·try replace ht16 := Kq.oT ht16
   refine sr (qm ?_)
   refine qa ?_
   refine sn (K.ret (K.qA (K.iA (K.iA (K.qA (K.iA (et ?_)))))))
   exact K.xA rfl (K.idx_found hk hall ht16).symm
  try replace ht16 := Kq.oF ht16
  refine K.skip (K.kA (K.dA (K.gA (qp (K.tA rfl rfl (by omega)) ?_))))
  refine qm ?_
  refine K.lA ?_
  exact K.rA [.int .i64 ((k : Int) + 1)] ⟨k + 1, rfl, rfl, by omega, K.fB hall ht16⟩ (by simp [K.nth, intOf]; omega) Kq.s0 (by kernel_rfl)
 try replace ht9 := Kq.oF ht9
 refine K.exit (K.pA (K.pA (K.zA (K.dA (sr (qa ?_))))))
 refine sn (K.ret (et ?_))
 exact K.xA rfl (K.idx_none (fun j hj => hall j (by omega))).symm

set_option maxRecDepth 100000 in
theorem c91 {A : Option Addr} {c f : Nat} {cap : List Value} {xs : List PinT} {p : PinT → Bool} {w : World} (hR : K.Rd w A 5 eN xs) (hn : xs.length ≤ 4611686018427387904) (hcal : K.callable Tryz.prog f = true) (hf : ∀ x ∈ xs, ∀ w1, Below w.heap.size w w1 → Calls Tryz.prog f ([Value.agg (eN x).toArray] ++ cap).toArray w1 (K.Gives (.bool (p x)) w1)) :
  Calls Tryz.prog 137 [.slice A xs.length c, .func (.func f) #[] cap.toArray].toArray w (K.Gives (.int .i64 (K.idx p xs)) w) := by
 refine K.enter (args := [.slice A xs.length c, .func (.func f) #[] cap.toArray]) Tryz.func137 rfl (n := 17) rfl ?_
 refine zR ?_
 refine sr (qa ?_)
 refine sn (K.seq (sr (qm ?_)))
 refine qp (K.aB oC rfl) ?_
 refine qm ?_
 refine sn (K.block ?_)
 refine K.loopW [8] [4, 5, 9, 10, 11, 12, 13, 14, 15, 16, 17, 18] (fun vi L => ∃ k : Nat, vi = [.int .i64 (k : Int)] ∧ L = [] ∧ k ≤ xs.length ∧ ∀ j, j < k → p (xs.getD j default) = false) (fun vi => xs.length - (intOf (K.nth vi 0)).toNat) ?_ ?_
 ·exact ⟨0, rfl, rfl, Nat.zero_le _, fun j hj => absurd hj (Nat.not_lt_zero j)⟩
 intro vi vr L hJ
 obtain ⟨k, rfl, rfl, hkn, hall⟩ := hJ
 refine zY ?_
 refine sr (qp (K.lss rfl rfl) ?_)
 refine sn (K.seq ?_)
 refine K.cond rfl (fun ht9 => ?_) (fun ht9 => ?_)
 ·try replace ht9 := Kq.oT ht9
  have hk : k < xs.length := by omega
  refine K.skip (K.dA (K.seq (K.block (sr (qm ?_)))))
  refine qa ?_
  refine sn (sr ?_)
  iterate 3 refine qm ?_
  refine K.vB (M := []) _ hR.sl oC rfl rfl rfl (by omega) rfl ?_
  intro p14 hp14
  refine zN ?_
  refine ql (K.uB ag_48 rfl (hp14.any) rfl) ?_
  refine qc (K.callv_g (first := []) (cap := cap) rfl hcal (fun F w1 _ hw => hf _ (K.gt_mem hk) w1 hw.1)) ?_
  refine sn ?_
  refine K.cond rfl (fun ht16 => ?_) (fun ht16 => ?_)
  ·try replace ht16 := Kq.oT ht16
   refine sr (qm ?_)
   refine qa ?_
   refine sn (K.ret (K.qA (K.iA (K.iA (K.qA (K.iA (et ?_)))))))
   exact K.xA rfl (K.idx_found hk hall ht16).symm
  try replace ht16 := Kq.oF ht16
  refine K.skip (K.kA (K.dA (K.gA (qp (K.tA rfl rfl (by omega)) ?_))))
  refine qm ?_
  refine K.lA ?_
  exact K.rA [.int .i64 ((k : Int) + 1)] ⟨k + 1, rfl, rfl, by omega, K.fB hall ht16⟩ (by simp [K.nth, intOf]; omega) Kq.s0 (by kernel_rfl)
 try replace ht9 := Kq.oF ht9
 refine K.exit (K.pA (K.pA (K.zA (K.dA (sr (qa ?_))))))
 refine sn (K.ret (et ?_))
 exact K.xA rfl (K.idx_none (fun j hj => hall j (by omega))).symm

set_option maxRecDepth 100000 in
theorem c89 {A : Option Addr} {c f : Nat} {cap : List Value} {xs : List Int} {p : Int → Bool} {w : World} (hR : K.Rd w A 1 K.eI xs) (hn : xs.length ≤ 4611686018427387904) (hcal : K.callable Tryz.prog f = true) (hf : ∀ x ∈ xs, ∀ w1, Below w.heap.size w w1 → Calls Tryz.prog f ([Value.int .i64 x] ++ cap).toArray w1 (K.Gives (.bool (p x)) w1)) :
  Calls Tryz.prog 87 [.slice A xs.length c, .func (.func f) #[] cap.toArray].toArray w (K.Gives (.bool (xs.any p)) w) := by
 refine K.enter (args := [.slice A xs.length c, .func (.func f) #[] cap.toArray]) Tryz.func87 rfl (n := 7) rfl ?_
 refine zR ?_
 refine sr (qa ?_)
 refine sn (sr ?_)
 iterate 2 refine qm ?_
 refine qc (K.nA cal_120 (fun F w hF hw => c51 (p := p) (cap := cap) (hR.pass hw) hn hcal (fun x hx w1 hb => hf x hx w1 (hw.1.trans (hb.mono hw.1.size))))) ?_
 refine qp (K.geq rfl rfl) ?_
 refine qa ?_
 refine sn (K.ret (et ?_))
 exact K.pB rfl K.idx_ge

set_option maxRecDepth 100000 in
theorem c54 {A : Option Addr} {c f : Nat} {cap : List Value} {xs : List PinT} {p : PinT → Bool} {w : World} (hR : K.Rd w A 5 eN xs) (hn : xs.length ≤ 4611686018427387904) (hcal : K.callable Tryz.prog f = true) (hf : ∀ x ∈ xs, ∀ w1, Below w.heap.size w w1 → Calls Tryz.prog f ([Value.agg (eN x).toArray] ++ cap).toArray w1 (K.Gives (.bool (p x)) w1)) :
  Calls Tryz.prog 122 [.slice A xs.length c, .func (.func f) #[] cap.toArray].toArray w (K.Gives (.bool (xs.any p)) w) := by
 refine K.enter (args := [.slice A xs.length c, .func (.func f) #[] cap.toArray]) Tryz.func122 rfl (n := 7) rfl ?_
 refine zR ?_
 refine sr (qa ?_)
 refine sn (sr ?_)
 iterate 2 refine qm ?_
 refine qc (K.nA cal_137 (fun F w hF hw => c91 (p := p) (cap := cap) (hR.pass hw) hn hcal (fun x hx w1 hb => hf x hx w1 (hw.1.trans (hb.mono hw.1.size))))) ?_
 refine qp (K.geq rfl rfl) ?_
 refine qa ?_
 refine sn (K.ret (et ?_))
 exact K.pB rfl K.idx_ge

set_option maxRecDepth 100000 in
theorem c50 {lo hi : Int} {A : Option Addr} {c : Nat} {xs : List Int} {w : World} (hR : K.Rd w A 1 K.eI xs) (hn : xs.length ≤ 4611686018427387904) :
  Calls Tryz.prog 49 [.int .i64 lo, .int .i64 hi, .slice A xs.length c].toArray w (K.Gives (.bool (outB lo hi xs)) w) := by
 refine K.enter (args := [.int .i64 lo, .int .i64 hi, .slice A xs.length c]) Tryz.func49 rfl (n := 7) rfl ?_
 refine zR ?_
 refine sr ?_
 refine qn (K.box) fun b3 => ?_
 refine qn (K.box) fun b4 => ?_
 refine qa ?_
 refine sn (sr (qm ?_))
 refine K.mA (K.mkFunc) rfl ?_
 refine zN ?_
 refine qc (K.nA cal_87 (fun F w hF hw => c89 (cap := [.pointer (some ⟨b3, 0, none⟩), .pointer (some ⟨b4, 0, none⟩)]) (hR.pass hw) hn cal_88 (fun x _ w1 hb => c90 (K.cell_later hw (hF _ (K.m1)) rfl hb) (K.cell_later hw (hF _ (K.m0)) rfl hb)))) ?_
 refine qa ?_
 refine sn (K.ret (et ?_))
 exact K.gives rfl

theorem c50_1 {lo hi x : Int} {w0 w : World} {F : List K.Chunk} {b : Nat} (hw : K.St w0 F w) (hm : K.blk b 3 [.int .i64 x] ∈ F) :
  Calls Tryz.prog 49 [.int .i64 lo, .int .i64 hi, .slice (some ⟨b, 0, none⟩) 1 1].toArray w (K.Gives (.bool (decide (¬ (lo ≤ x ∧ x ≤ hi)))) w) := by
 have h := c50 (lo := lo) (hi := hi) (c := 1) (xs := [x]) (K.Rd.lit hw hm (fun _ => rfl) (by decide) rfl) (by simp)
 have e : outB lo hi [x] = decide (¬ (lo ≤ x ∧ x ≤ hi)) := by
  rw [Bool.eq_iff_iff]; simp [outB]
  try omega
 rw [e] at h
 exact h
theorem c50_2 {lo hi x y : Int} {w0 w : World} {F : List K.Chunk} {b : Nat} (hw : K.St w0 F w) (hm : K.blk b 3 [.int .i64 x, .int .i64 y] ∈ F) :
  Calls Tryz.prog 49 [.int .i64 lo, .int .i64 hi, .slice (some ⟨b, 0, none⟩) 2 2].toArray w (K.Gives (.bool (decide (¬ ((lo ≤ x ∧ x ≤ hi) ∧ (lo ≤ y ∧ y ≤ hi))))) w) := by
 have h := c50 (lo := lo) (hi := hi) (c := 2) (xs := [x, y]) (K.Rd.lit hw hm (fun _ => rfl) (by decide) rfl) (by simp)
 have e : outB lo hi [x, y] = decide (¬ ((lo ≤ x ∧ x ≤ hi) ∧ (lo ≤ y ∧ y ≤ hi))) := by
  rw [Bool.eq_iff_iff]; simp [outB]; omega
 rw [e] at h
 exact h


set_option maxRecDepth 100000 in
theorem c52 {n : Int} (w : World) :
  Calls Tryz.prog 121 [.int .i64 n].toArray w (K.Gives (.bool (decide (hgE n ≠ 0))) w) := by
 refine K.enter (args := [.int .i64 n]) Tryz.func121 rfl (n := 5) rfl ?_
 refine zR ?_
 refine sr (qa ?_)
 refine sn (sr (qm ?_))
 refine qn (K.buildSlice (bs1 _)) fun b4 => ?_
 refine qc (K.nA cal_49 (fun F w hF hw => c50_1 hw (hF _ (K.m0)))) ?_
 refine qa ?_
 refine sn (K.ret (et ?_))
 exact K.pB rfl (by unfold hgE; split <;> simp_all)

set_option maxRecDepth 100000 in
theorem c56 {m : Mod} {A B C : Option Addr} {c d e : Nat} {x y : Int} {w : World} (hW : 1 ≤ m.W ∧ m.W ≤ 8) (hD : 1 ≤ m.D ∧ m.D ≤ 8) :
  Calls Tryz.prog 80 [.agg #[.int .i64 m.W, .int .i64 m.D, .slice A m.hs.length c, .slice B m.ps.length d, .slice C m.ss.length e], .agg #[.int .i64 x, .int .i64 y]].toArray w (K.Gives (.bool (decide (onF m.W m.D x y))) w) := by
 refine K.enter (args := [.agg #[.int .i64 m.W, .int .i64 m.D, .slice A m.hs.length c, .slice B m.ps.length d, .slice C m.ss.length e], .agg #[.int .i64 x, .int .i64 y]]) Tryz.func80 rfl (n := 21) rfl ?_
 refine zR ?_
 refine sr ?_
 refine qn (K.box) fun b2 => ?_
 refine qn (K.box) fun b3 => ?_
 refine qa ?_
 refine sn (sr (qp (K.aA fo_30_0 rfl) ?_))
 refine ql (K.fA one_3 rfl (K.m1) rfl) ?_
 refine qp (K.oB rfl rfl (by omega)) ?_
 refine qp (K.aA fo_110_0 rfl) ?_
 refine ql (K.fA one_3 rfl (K.m0) rfl) ?_
 refine qn (K.buildSlice (bs1 _)) fun b10 => ?_
 refine qc (K.nA cal_49 (fun F w hF hw => c50_1 hw (hF _ (K.m0)))) ?_
 refine qp (K.Pure.eq (K.fC rfl) (show _ = Value.bool (decide (0 ≤ x ∧ x ≤ m.W - 1)) from by simp)) ?_
 refine qm ?_
 refine K.split 13 rfl (fun hg13 => ?_) (fun hg13 => ?_)
 ·try replace hg13 := Kq.oT hg13
  refine qp (K.aA fo_30_1 rfl) ?_
  refine ql (K.fA one_3 rfl (K.m2) rfl) ?_
  refine qp (K.oB rfl rfl (by omega)) ?_
  refine qp (K.aA fo_110_1 rfl) ?_
  refine ql (K.fA one_3 rfl (K.m1) rfl) ?_
  refine qn (K.buildSlice (bs1 _)) fun b19 => ?_
  refine qc (K.nA cal_49 (fun F w hF hw => c50_1 hw (hF _ (K.m0)))) ?_
  refine qp (K.Pure.eq (K.fC rfl) (show _ = Value.bool (decide (0 ≤ y ∧ y ≤ m.D - 1)) from by simp)) ?_
  refine qp (K.sA rfl) ?_
  refine qa ?_
  refine sn (K.ret (et ?_))
  exact K.pB rfl (by rw [decide_eq_decide]; exact ⟨fun h => ⟨hg13, h⟩, fun h => h.2⟩)
 try replace hg13 := Kq.oF hg13
 iterate 8 refine qs ?_
 refine qp (K.dB rfl) ?_
 refine qa ?_
 refine sn (K.ret (et ?_))
 exact K.pB rfl (by rw [eq_comm, decide_eq_false_iff_not]; exact fun h => hg13 h.1)

set_option maxRecDepth 100000 in
theorem c81 {m : Mod} {A B C : Option Addr} {c d e : Nat} {x y : Int} {w : World} (hW : 1 ≤ m.W ∧ m.W ≤ 8) (hD : 1 ≤ m.D ∧ m.D ≤ 8) :
  Calls Tryz.prog 56 [.agg #[.int .i64 m.W, .int .i64 m.D, .slice A m.hs.length c, .slice B m.ps.length d, .slice C m.ss.length e], .int .i64 x, .int .i64 y].toArray w (K.Gives (.bool (decide (onF m.W m.D x y))) w) := by
 refine K.enter (args := [.agg #[.int .i64 m.W, .int .i64 m.D, .slice A m.hs.length c, .slice B m.ps.length d, .slice C m.ss.length e], .int .i64 x, .int .i64 y]) Tryz.func56 rfl (n := 16) rfl ?_
 refine zR ?_
 refine sr ?_
 refine qn (K.box) fun b3 => ?_
 refine qa ?_
 refine sn (sr (qm ?_))
 refine qp (K.aA fo_30_0 rfl) ?_
 refine ql (K.fA one_3 rfl (K.m0) rfl) ?_
 refine qp (K.oB rfl rfl (by omega)) ?_
 refine qc (K.nA cal_17 (fun F w hF hw => c57 w)) ?_
 refine qm ?_
 refine K.split 12 rfl (fun hg12 => ?_) (fun hg12 => ?_)
 ·try replace hg12 := Kq.oT hg12
  refine qm ?_
  refine qp (K.aA fo_30_1 rfl) ?_
  refine ql (K.fA one_3 rfl (K.m0) rfl) ?_
  refine qp (K.oB rfl rfl (by omega)) ?_
  refine qc (K.nA cal_17 (fun F w hF hw => c57 w)) ?_
  refine qp (K.sA rfl) ?_
  refine qa ?_
  refine sn (K.ret (et ?_))
  exact K.pB rfl (by rw [decide_eq_decide]; exact ⟨fun h => ⟨hg12, h⟩, fun h => h.2⟩)
 try replace hg12 := Kq.oF hg12
 iterate 5 refine qs ?_
 refine qp (K.dB rfl) ?_
 refine qa ?_
 refine sn (K.ret (et ?_))
 exact K.pB rfl (by rw [eq_comm, decide_eq_false_iff_not]; exact fun h => hg12 h.1)

end Go.Proofs.YtnhhfkgldoeifaaGreatDoor.Pn
end
section
namespace Go.Proofs.YtnhhfkgldoeifaaGreatDoor.Pn
open Go.RowKit Go
open Go.K (setd setn ev nth over cl eI eP eT setM setF)
attribute [local irreducible] K.blk K.row
def posV : Nat → Value
 | 0 => undef
 | p + 1 => .int .i64 (p : Int)
def posN : Value → Nat
 | .int _ q => q.toNat + 1
 | _ => 0
theorem posN_V {p : Nat} : posN (posV p) = p := by cases p <;> simp [posN, posV, undef]
theorem dec_key {s : ByteArray} {p : Nat} : ((Utf8.decode s p).2 = 1 ∧ ((Utf8.decode s p).1 : Int) = K.bt s p ∧ K.bt s p < 128) ∨ (128 ≤ ((Utf8.decode s p).1 : Int) ∧ 128 ≤ K.bt s p) := by
 by_cases h : K.bt s p < 128
 ·left
  rw [K.decode_lo h]
  exact ⟨rfl, rfl, h⟩
 ·right
  have := K.decode_hi h
  omega
theorem size_ne {s : ByteArray} : (!(s.toList == (⟨#[]⟩ : ByteArray).toList)) = decide (1 ≤ s.size) := by
 have h0 : (⟨#[]⟩ : ByteArray).toList = [] := (toList_nil_iff_emptyBytes _).2 rfl
 rw [h0, Bool.eq_iff_iff]
 simp only [Bool.not_eq_true', beq_eq_false_iff_ne, ne_eq, decide_eq_true_eq, toList_nil_iff_emptyBytes]
 constructor
 ·intro h
  rcases Nat.eq_zero_or_pos s.size with h1 | h1
  ·exfalso; apply h
   cases s with
   | mk d => simp [ByteArray.size] at h1; subst h1; rfl
  ·exact h1
 ·rintro h rfl
  exact absurd h (by decide)
theorem ok_f {p : Nat} {b : Int} (h : ¬ ((97 ≤ b ∧ b ≤ 122) ∨ (0 < p ∧ ((48 ≤ b ∧ b ≤ 57) ∨ b = 45)))) : okC p b = false := decide_eq_false h
theorem ok_t {p : Nat} {b : Int} (h : (97 ≤ b ∧ b ≤ 122) ∨ (0 < p ∧ ((48 ≤ b ∧ b ≤ 57) ∨ b = 45))) : okC p b = true := decide_eq_true h
theorem name_end {s : ByteArray} {p : Nat} (h1 : 1 ≤ s.size) (hp : ¬ p < s.size) (hall : ∀ j, j < p → okC j (K.bt s j) = true) : decide ((s.size : Int) ≤ 16) = nameB s := by
 by_cases h : s.size ≤ 16
 ·rw [name_t ⟨h1, h⟩ (fun i hi => hall i (by omega)), decide_eq_true (by omega)]
 ·rw [name_f1 (by omega), decide_eq_false (by omega)]
theorem name_end0 {s : ByteArray} (h1 : ¬ 1 ≤ s.size) : false = nameB s := by rw [name_f1 (by omega)]

set_option maxRecDepth 100000 in
theorem c53 {s : ByteArray} (w : World) :
  Calls Tryz.prog 36 [.string s].toArray w (K.Gives (.bool (nameB s)) w) := by
 refine K.enter (args := [.string s]) Tryz.func36 rfl (n := 40) rfl ?_
 refine zR ?_
 refine sr (qa ?_)
 refine sn (K.seq (sr (qm ?_)))
 refine K.gB (K.rangeS sT_9 rfl) rfl ?_
 rintro b6 _
 refine zN ?_
 refine sn (K.block ?_)
 refine K.loopW [3] [2, 4, 7, 8, 9, 10, 11, 12, 13, 14, 15, 16, 17, 18, 19, 20, 21, 22, 23, 24, 25, 26, 27, 28, 29, 30, 31, 32, 33] (fun vi L => ∃ p : Nat, vi = [posV p] ∧ L = [K.sit b6 s p] ∧ p ≤ s.size ∧ ∀ j, j < p → okC j (K.bt s j) = true) (fun vi => s.size - posN (K.nth vi 0)) ?_ ?_
 ·exact ⟨0, rfl, rfl, Nat.zero_le _, fun j hj => absurd hj (Nat.not_lt_zero j)⟩
 intro vi vr L hJ
 obtain ⟨p, rfl, rfl, hps, hall⟩ := hJ
 refine zY ?_
 refine sr ?_
 by_cases hnx7 : p < s.size
 ·refine K.xB (K.nextS_more rfl hnx7 (K.rp0)) rfl ?_
  rintro _ _
  refine zN ?_
  refine qx ?_
  refine sn (K.seq (K.yA rfl ?_))
  refine K.skip (K.dA (K.block (sr ?_)))
  iterate 2 refine qx ?_
  iterate 2 refine qa ?_
  refine sn (sr (qm ?_))
  refine qp (K.geq rfl rfl) ?_
  refine qm ?_
  refine K.split 13 rfl (fun hg13 => ?_) (fun hg13 => ?_)
  ·try replace hg13 := Kq.oT hg13
   refine qm ?_
   refine qp (K.leq rfl rfl) ?_
   refine qp (K.sA rfl) ?_
   refine qm ?_
   refine K.split 17 rfl (fun hg17 => ?_) (fun hg17 => ?_)
   ·try replace hg17 := Kq.oT hg17
    iterate 14 refine qs ?_
    refine qp (K.sA rfl) ?_
    first | refine K.mA (K.fC rfl) rfl ?_ | refine K.mA (K.not_ rfl) rfl ?_
    refine zN ?_
    refine sn ?_
    refine K.cond rfl (fun ht33 => ?_) (fun ht33 => ?_)
    ·try replace ht33 := Kq.oT ht33
     refine sr (qa ?_)
     refine sn (K.ret (K.qA (K.iA (K.qA (K.iA (et ?_))))))
     first
      | exact absurd ht33 (by decide)
      | exact K.pB rfl (name_f2 hnx7 (ok_f (by rcases dec_key (s := s) (p := p) with ⟨hk1, hk2, hk3⟩ | ⟨hk1, hk2⟩ <;> omega))).symm
    try replace ht33 := Kq.oF ht33
    refine K.skip (K.kA ?_)
    have hc : okC p (K.bt s p) = true ∧ (Utf8.decode s p).2 = 1 := by
     first
      | exact absurd ht33 (by decide)
      | (rcases dec_key (s := s) (p := p) with ⟨hk1, hk2, hk3⟩ | ⟨hk1, hk2⟩ <;> first | exact ⟨ok_t (by omega), hk1⟩ | (exfalso; omega))
    exact K.rA (L'' := [K.sit b6 s (p + 1)]) [.int .i64 (p : Int)] ⟨p + 1, rfl, rfl, by omega, K.fB hall hc.1⟩ (by show s.size - posN (.int .i64 (p : Int)) < s.size - posN (posV p); rw [posN_V]; simp [posN]; omega) (by rw [hc.2]; exact List.Sublist.refl _) (by kernel_rfl)
   try replace hg17 := Kq.oF hg17
   refine qm ?_
   refine qp (K.gtr rfl rfl) ?_
   refine qm ?_
   refine K.split 20 rfl (fun hg20 => ?_) (fun hg20 => ?_)
   ·try replace hg20 := Kq.oT hg20
    refine qm ?_
    refine qp (K.geq rfl rfl) ?_
    refine qm ?_
    refine K.split 23 rfl (fun hg23 => ?_) (fun hg23 => ?_)
    ·try replace hg23 := Kq.oT hg23
     refine qm ?_
     refine qp (K.leq rfl rfl) ?_
     refine qp (K.sA rfl) ?_
     refine qm ?_
     refine K.split 27 rfl (fun hg27 => ?_) (fun hg27 => ?_)
     ·try replace hg27 := Kq.oT hg27
      iterate 2 refine qs ?_
      refine qp (K.sA rfl) ?_
      refine qp (K.sA rfl) ?_
      refine qp (K.dB rfl) ?_
      first | refine K.mA (K.fC rfl) rfl ?_ | refine K.mA (K.not_ rfl) rfl ?_
      refine zN ?_
      refine sn ?_
      refine K.cond rfl (fun ht33 => ?_) (fun ht33 => ?_)
      ·try replace ht33 := Kq.oT ht33
       refine sr (qa ?_)
       refine sn (K.ret (K.qA (K.iA (K.qA (K.iA (et ?_))))))
       first
        | exact absurd ht33 (by decide)
        | exact K.pB rfl (name_f2 hnx7 (ok_f (by rcases dec_key (s := s) (p := p) with ⟨hk1, hk2, hk3⟩ | ⟨hk1, hk2⟩ <;> omega))).symm
      try replace ht33 := Kq.oF ht33
      refine K.skip (K.kA ?_)
      have hc : okC p (K.bt s p) = true ∧ (Utf8.decode s p).2 = 1 := by
       first
        | exact absurd ht33 (by decide)
        | (rcases dec_key (s := s) (p := p) with ⟨hk1, hk2, hk3⟩ | ⟨hk1, hk2⟩ <;> first | exact ⟨ok_t (by omega), hk1⟩ | (exfalso; omega))
      exact K.rA (L'' := [K.sit b6 s (p + 1)]) [.int .i64 (p : Int)] ⟨p + 1, rfl, rfl, by omega, K.fB hall hc.1⟩ (by show s.size - posN (.int .i64 (p : Int)) < s.size - posN (posV p); rw [posN_V]; simp [posN]; omega) (by rw [hc.2]; exact List.Sublist.refl _) (by kernel_rfl)
     try replace hg27 := Kq.oF hg27
     refine qm ?_
     refine qp (K.eql rfl rfl) ?_
     refine qp (K.dB rfl) ?_
     refine qp (K.sA rfl) ?_
     refine qp (K.dB rfl) ?_
     first | refine K.mA (K.fC rfl) rfl ?_ | refine K.mA (K.not_ rfl) rfl ?_
     refine zN ?_
     refine sn ?_
     refine K.cond rfl (fun ht33 => ?_) (fun ht33 => ?_)
     ·try replace ht33 := Kq.oT ht33
      refine sr (qa ?_)
      refine sn (K.ret (K.qA (K.iA (K.qA (K.iA (et ?_))))))
      first
       | exact absurd ht33 (by decide)
       | exact K.pB rfl (name_f2 hnx7 (ok_f (by rcases dec_key (s := s) (p := p) with ⟨hk1, hk2, hk3⟩ | ⟨hk1, hk2⟩ <;> omega))).symm
     try replace ht33 := Kq.oF ht33
     refine K.skip (K.kA ?_)
     have hc : okC p (K.bt s p) = true ∧ (Utf8.decode s p).2 = 1 := by
      first
       | exact absurd ht33 (by decide)
       | (rcases dec_key (s := s) (p := p) with ⟨hk1, hk2, hk3⟩ | ⟨hk1, hk2⟩ <;> first | exact ⟨ok_t (by omega), hk1⟩ | (exfalso; omega))
     exact K.rA (L'' := [K.sit b6 s (p + 1)]) [.int .i64 (p : Int)] ⟨p + 1, rfl, rfl, by omega, K.fB hall hc.1⟩ (by show s.size - posN (.int .i64 (p : Int)) < s.size - posN (posV p); rw [posN_V]; simp [posN]; omega) (by rw [hc.2]; exact List.Sublist.refl _) (by kernel_rfl)
    try replace hg23 := Kq.oF hg23
    iterate 2 refine qs ?_
    refine qp (K.dB rfl) ?_
    iterate 2 refine qm ?_
    refine qp (K.eql rfl rfl) ?_
    refine qp (K.dB rfl) ?_
    refine qp (K.sA rfl) ?_
    refine qp (K.dB rfl) ?_
    first | refine K.mA (K.fC rfl) rfl ?_ | refine K.mA (K.not_ rfl) rfl ?_
    refine zN ?_
    refine sn ?_
    refine K.cond rfl (fun ht33 => ?_) (fun ht33 => ?_)
    ·try replace ht33 := Kq.oT ht33
     refine sr (qa ?_)
     refine sn (K.ret (K.qA (K.iA (K.qA (K.iA (et ?_))))))
     first
      | exact absurd ht33 (by decide)
      | exact K.pB rfl (name_f2 hnx7 (ok_f (by rcases dec_key (s := s) (p := p) with ⟨hk1, hk2, hk3⟩ | ⟨hk1, hk2⟩ <;> omega))).symm
    try replace ht33 := Kq.oF ht33
    refine K.skip (K.kA ?_)
    have hc : okC p (K.bt s p) = true ∧ (Utf8.decode s p).2 = 1 := by
     first
      | exact absurd ht33 (by decide)
      | (rcases dec_key (s := s) (p := p) with ⟨hk1, hk2, hk3⟩ | ⟨hk1, hk2⟩ <;> first | exact ⟨ok_t (by omega), hk1⟩ | (exfalso; omega))
    exact K.rA (L'' := [K.sit b6 s (p + 1)]) [.int .i64 (p : Int)] ⟨p + 1, rfl, rfl, by omega, K.fB hall hc.1⟩ (by show s.size - posN (.int .i64 (p : Int)) < s.size - posN (posV p); rw [posN_V]; simp [posN]; omega) (by rw [hc.2]; exact List.Sublist.refl _) (by kernel_rfl)
   try replace hg20 := Kq.oF hg20
   iterate 10 refine qs ?_
   refine qp (K.dB rfl) ?_
   refine qp (K.dB rfl) ?_
   first | refine K.mA (K.fC rfl) rfl ?_ | refine K.mA (K.not_ rfl) rfl ?_
   refine zN ?_
   refine sn ?_
   refine K.cond rfl (fun ht33 => ?_) (fun ht33 => ?_)
   ·try replace ht33 := Kq.oT ht33
    refine sr (qa ?_)
    refine sn (K.ret (K.qA (K.iA (K.qA (K.iA (et ?_))))))
    first
     | exact absurd ht33 (by decide)
     | exact K.pB rfl (name_f2 hnx7 (ok_f (by rcases dec_key (s := s) (p := p) with ⟨hk1, hk2, hk3⟩ | ⟨hk1, hk2⟩ <;> omega))).symm
   try replace ht33 := Kq.oF ht33
   refine K.skip (K.kA ?_)
   have hc : okC p (K.bt s p) = true ∧ (Utf8.decode s p).2 = 1 := by
    first
     | exact absurd ht33 (by decide)
     | (rcases dec_key (s := s) (p := p) with ⟨hk1, hk2, hk3⟩ | ⟨hk1, hk2⟩ <;> first | exact ⟨ok_t (by omega), hk1⟩ | (exfalso; omega))
   exact K.rA (L'' := [K.sit b6 s (p + 1)]) [.int .i64 (p : Int)] ⟨p + 1, rfl, rfl, by omega, K.fB hall hc.1⟩ (by show s.size - posN (.int .i64 (p : Int)) < s.size - posN (posV p); rw [posN_V]; simp [posN]; omega) (by rw [hc.2]; exact List.Sublist.refl _) (by kernel_rfl)
  try replace hg13 := Kq.oF hg13
  iterate 2 refine qs ?_
  refine qp (K.dB rfl) ?_
  iterate 2 refine qm ?_
  refine qp (K.gtr rfl rfl) ?_
  refine qm ?_
  refine K.split 20 rfl (fun hg20 => ?_) (fun hg20 => ?_)
  ·try replace hg20 := Kq.oT hg20
   refine qm ?_
   refine qp (K.geq rfl rfl) ?_
   refine qm ?_
   refine K.split 23 rfl (fun hg23 => ?_) (fun hg23 => ?_)
   ·try replace hg23 := Kq.oT hg23
    refine qm ?_
    refine qp (K.leq rfl rfl) ?_
    refine qp (K.sA rfl) ?_
    refine qm ?_
    refine K.split 27 rfl (fun hg27 => ?_) (fun hg27 => ?_)
    ·try replace hg27 := Kq.oT hg27
     iterate 2 refine qs ?_
     refine qp (K.sA rfl) ?_
     refine qp (K.sA rfl) ?_
     refine qp (K.dB rfl) ?_
     first | refine K.mA (K.fC rfl) rfl ?_ | refine K.mA (K.not_ rfl) rfl ?_
     refine zN ?_
     refine sn ?_
     refine K.cond rfl (fun ht33 => ?_) (fun ht33 => ?_)
     ·try replace ht33 := Kq.oT ht33
      refine sr (qa ?_)
      refine sn (K.ret (K.qA (K.iA (K.qA (K.iA (et ?_))))))
      first
       | exact absurd ht33 (by decide)
       | exact K.pB rfl (name_f2 hnx7 (ok_f (by rcases dec_key (s := s) (p := p) with ⟨hk1, hk2, hk3⟩ | ⟨hk1, hk2⟩ <;> omega))).symm
     try replace ht33 := Kq.oF ht33
     refine K.skip (K.kA ?_)
     have hc : okC p (K.bt s p) = true ∧ (Utf8.decode s p).2 = 1 := by
      first
       | exact absurd ht33 (by decide)
       | (rcases dec_key (s := s) (p := p) with ⟨hk1, hk2, hk3⟩ | ⟨hk1, hk2⟩ <;> first | exact ⟨ok_t (by omega), hk1⟩ | (exfalso; omega))
     exact K.rA (L'' := [K.sit b6 s (p + 1)]) [.int .i64 (p : Int)] ⟨p + 1, rfl, rfl, by omega, K.fB hall hc.1⟩ (by show s.size - posN (.int .i64 (p : Int)) < s.size - posN (posV p); rw [posN_V]; simp [posN]; omega) (by rw [hc.2]; exact List.Sublist.refl _) (by kernel_rfl)
    try replace hg27 := Kq.oF hg27
    refine qm ?_
    refine qp (K.eql rfl rfl) ?_
    refine qp (K.dB rfl) ?_
    refine qp (K.sA rfl) ?_
    refine qp (K.dB rfl) ?_
    first | refine K.mA (K.fC rfl) rfl ?_ | refine K.mA (K.not_ rfl) rfl ?_
    refine zN ?_
    refine sn ?_
    refine K.cond rfl (fun ht33 => ?_) (fun ht33 => ?_)
    ·try replace ht33 := Kq.oT ht33
     refine sr (qa ?_)
     refine sn (K.ret (K.qA (K.iA (K.qA (K.iA (et ?_))))))
     first
      | exact absurd ht33 (by decide)
      | exact K.pB rfl (name_f2 hnx7 (ok_f (by rcases dec_key (s := s) (p := p) with ⟨hk1, hk2, hk3⟩ | ⟨hk1, hk2⟩ <;> omega))).symm
    try replace ht33 := Kq.oF ht33
    refine K.skip (K.kA ?_)
    have hc : okC p (K.bt s p) = true ∧ (Utf8.decode s p).2 = 1 := by
     first
      | exact absurd ht33 (by decide)
      | (rcases dec_key (s := s) (p := p) with ⟨hk1, hk2, hk3⟩ | ⟨hk1, hk2⟩ <;> first | exact ⟨ok_t (by omega), hk1⟩ | (exfalso; omega))
    exact K.rA (L'' := [K.sit b6 s (p + 1)]) [.int .i64 (p : Int)] ⟨p + 1, rfl, rfl, by omega, K.fB hall hc.1⟩ (by show s.size - posN (.int .i64 (p : Int)) < s.size - posN (posV p); rw [posN_V]; simp [posN]; omega) (by rw [hc.2]; exact List.Sublist.refl _) (by kernel_rfl)
   try replace hg23 := Kq.oF hg23
   iterate 2 refine qs ?_
   refine qp (K.dB rfl) ?_
   iterate 2 refine qm ?_
   refine qp (K.eql rfl rfl) ?_
   refine qp (K.dB rfl) ?_
   refine qp (K.sA rfl) ?_
   refine qp (K.dB rfl) ?_
   first | refine K.mA (K.fC rfl) rfl ?_ | refine K.mA (K.not_ rfl) rfl ?_
   refine zN ?_
   refine sn ?_
   refine K.cond rfl (fun ht33 => ?_) (fun ht33 => ?_)
   ·try replace ht33 := Kq.oT ht33
    refine sr (qa ?_)
    refine sn (K.ret (K.qA (K.iA (K.qA (K.iA (et ?_))))))
    first
     | exact absurd ht33 (by decide)
     | exact K.pB rfl (name_f2 hnx7 (ok_f (by rcases dec_key (s := s) (p := p) with ⟨hk1, hk2, hk3⟩ | ⟨hk1, hk2⟩ <;> omega))).symm
   try replace ht33 := Kq.oF ht33
   refine K.skip (K.kA ?_)
   have hc : okC p (K.bt s p) = true ∧ (Utf8.decode s p).2 = 1 := by
    first
     | exact absurd ht33 (by decide)
     | (rcases dec_key (s := s) (p := p) with ⟨hk1, hk2, hk3⟩ | ⟨hk1, hk2⟩ <;> first | exact ⟨ok_t (by omega), hk1⟩ | (exfalso; omega))
   exact K.rA (L'' := [K.sit b6 s (p + 1)]) [.int .i64 (p : Int)] ⟨p + 1, rfl, rfl, by omega, K.fB hall hc.1⟩ (by show s.size - posN (.int .i64 (p : Int)) < s.size - posN (posV p); rw [posN_V]; simp [posN]; omega) (by rw [hc.2]; exact List.Sublist.refl _) (by kernel_rfl)
  try replace hg20 := Kq.oF hg20
  iterate 10 refine qs ?_
  refine qp (K.dB rfl) ?_
  refine qp (K.dB rfl) ?_
  first | refine K.mA (K.fC rfl) rfl ?_ | refine K.mA (K.not_ rfl) rfl ?_
  refine zN ?_
  refine sn ?_
  refine K.cond rfl (fun ht33 => ?_) (fun ht33 => ?_)
  ·try replace ht33 := Kq.oT ht33
   refine sr (qa ?_)
   refine sn (K.ret (K.qA (K.iA (K.qA (K.iA (et ?_))))))
   first
    | exact absurd ht33 (by decide)
    | exact K.pB rfl (name_f2 hnx7 (ok_f (by rcases dec_key (s := s) (p := p) with ⟨hk1, hk2, hk3⟩ | ⟨hk1, hk2⟩ <;> omega))).symm
  try replace ht33 := Kq.oF ht33
  refine K.skip (K.kA ?_)
  have hc : okC p (K.bt s p) = true ∧ (Utf8.decode s p).2 = 1 := by
   first
    | exact absurd ht33 (by decide)
    | (rcases dec_key (s := s) (p := p) with ⟨hk1, hk2, hk3⟩ | ⟨hk1, hk2⟩ <;> first | exact ⟨ok_t (by omega), hk1⟩ | (exfalso; omega))
  exact K.rA (L'' := [K.sit b6 s (p + 1)]) [.int .i64 (p : Int)] ⟨p + 1, rfl, rfl, by omega, K.fB hall hc.1⟩ (by show s.size - posN (.int .i64 (p : Int)) < s.size - posN (posV p); rw [posN_V]; simp [posN]; omega) (by rw [hc.2]; exact List.Sublist.refl _) (by kernel_rfl)
 refine ql (K.nextS_over rfl hnx7 (K.m0)) ?_
 refine qx ?_
 refine sn (K.seq (K.oA rfl ?_))
 refine K.exit (K.pA (K.pA (K.zA (K.dA (sr (qm ?_))))))
 refine qp (K.Pure.eq (K.neq_s rfl rfl) (show _ = Value.bool (decide (1 ≤ s.size)) from by rw [size_ne])) ?_
 refine qm ?_
 refine K.split 36 rfl (fun hg36 => ?_) (fun hg36 => ?_)
 ·try replace hg36 := Kq.oT hg36
  refine qm ?_
  refine qp (K.len_s sT_9 rfl) ?_
  refine qp (K.leq rfl rfl) ?_
  refine qp (K.sA rfl) ?_
  refine qa ?_
  refine sn (K.ret (et ?_))
  exact K.pB rfl (name_end hg36 hnx7 hall)
 try replace hg36 := Kq.oF hg36
 iterate 3 refine qs ?_
 refine qp (K.dB rfl) ?_
 refine qa ?_
 refine sn (K.ret (et ?_))
 exact K.pB rfl (name_end0 hg36)

end Go.Proofs.YtnhhfkgldoeifaaGreatDoor.Pn
end
section
namespace Go.Proofs.YtnhhfkgldoeifaaGreatDoor.Pn
open Go.RowKit Go
open Go.K (setd setn ev nth over cl eI eP eT setM setF)
attribute [local irreducible] K.blk K.row
def eB (s : ByteArray) : List Value := [.string s]
theorem bs61 (a b : Int) : K.Bs Tryz.prog 41 1 [(0, .agg #[.int .i64 a, .int .i64 b])] 46 [.int .i64 a, .int .i64 b] := fun w => by kernel_rfl
theorem bs86 (s : ByteArray) : K.Bs Tryz.prog 22 1 [(0, .string s)] 9 [.string s] := fun w => by kernel_rfl
theorem sp_7 {low high : Int} {p : Int × Int} (h : ¬ ((low ≤ p.1 ∧ p.1 ≤ high) ∧ (low ≤ p.2 ∧ p.2 ≤ high))) : spreadE low high [p] = 7 := by simp only [spreadE, List.any_cons, List.any_nil, Bool.or_false]; rw [if_pos (decide_eq_true h)]
theorem sp_2 {low high : Int} {p : Int × Int} (h : (low ≤ p.1 ∧ p.1 ≤ high) ∧ (low ≤ p.2 ∧ p.2 ≤ high)) (h2 : p.1 > p.2) : spreadE low high [p] = 2 := by simp only [spreadE, List.any_cons, List.any_nil, Bool.or_false]; rw [if_neg (by simp; omega), if_pos (decide_eq_true h2)]
theorem sp_0 {low high : Int} {p : Int × Int} (h : (low ≤ p.1 ∧ p.1 ≤ high) ∧ (low ≤ p.2 ∧ p.2 ≤ high)) (h2 : ¬ p.1 > p.2) : spreadE low high [p] = 0 := by simp only [spreadE, List.any_cons, List.any_nil, Bool.or_false]; rw [if_neg (by simp; omega), if_neg (by simpa using h2)]
theorem st_7a {W D : Int} {s : StT} (h : spreadE 0 2000 [(s.lo, s.hi)] = 7) : stE W D s = 7 := by
 unfold stE
 by_cases h1 : (0 ≤ s.lo ∧ s.lo ≤ 2000) ∧ (0 ≤ s.hi ∧ s.hi ≤ 2000)
 ·by_cases h2 : s.lo > s.hi
  ·rw [sp_2 h1 h2] at h; cases h
  ·rw [sp_0 h1 h2] at h; cases h
 ·rw [if_pos (by omega)]
theorem st_rest {W D : Int} {s : StT} (h : spreadE 0 2000 [(s.lo, s.hi)] ≠ 7) (hx : (-20 ≤ s.x ∧ s.x ≤ 20) ∧ (-20 ≤ s.y ∧ s.y ≤ 20)) : stE W D s = if onF W D s.x s.y then 4 else spreadE 0 2000 [(s.lo, s.hi)] := by
 unfold stE
 by_cases h1 : (0 ≤ s.lo ∧ s.lo ≤ 2000) ∧ (0 ≤ s.hi ∧ s.hi ≤ 2000)
 ·rw [if_neg (by omega)]
  by_cases h2 : s.lo > s.hi
  ·rw [sp_2 h1 h2, if_pos h2]
  ·rw [sp_0 h1 h2, if_neg h2]
 ·exact absurd (sp_7 h1) h

set_option maxRecDepth 100000 in
theorem c92 {s : ByteArray} (w : World) :
  Calls Tryz.prog 53 [.string s].toArray w (K.Gives (.bool (nameB s)) w) := by
 refine K.enter (args := [.string s]) Tryz.func53 rfl (n := 51) rfl ?_
 refine zR ?_
 refine sr (qa ?_)
 refine sn (K.seq (sr (qm ?_)))
 refine qp (K.len_s sT_9 rfl) ?_
 refine qc (K.nA cal_14 (fun F w hF hw => c106 w)) ?_
 refine qp (K.fC rfl) ?_
 refine qm ?_
 refine K.split 8 rfl (fun hg8 => ?_) (fun hg8 => ?_)
 ·try replace hg8 := Kq.oT hg8
  iterate 3 refine qs ?_
  refine qp (K.sA rfl) ?_
  refine qm ?_
  iterate 3 refine qs ?_
  refine qp (K.sA rfl) ?_
  refine sn (K.yA rfl ?_)
  refine sr (qa ?_)
  refine sn (K.ret (K.iA (et ?_)))
  first
   | exact absurd ht17 (by decide)
   | exact K.pB rfl (name_f1 (by omega)).symm
   | exact K.pB rfl (name_f2 (i := 0) (by omega) (ok_f (by omega))).symm
 try replace hg8 := Kq.oF hg8
 refine qm ?_
 refine K.mA (K.index_s (m := 0) sT_9 rfl rfl rfl (by omega)) rfl ?_
 refine zN ?_
 refine qp (K.lss rfl rfl) ?_
 refine qp (K.dB rfl) ?_
 refine qm ?_
 refine K.split 13 rfl (fun hg13 => ?_) (fun hg13 => ?_)
 ·try replace hg13 := Kq.oT hg13
  iterate 3 refine qs ?_
  refine qp (K.sA rfl) ?_
  refine sn (K.yA rfl ?_)
  refine sr (qa ?_)
  refine sn (K.ret (K.iA (et ?_)))
  first
   | exact absurd ht17 (by decide)
   | exact K.pB rfl (name_f1 (by omega)).symm
   | exact K.pB rfl (name_f2 (i := 0) (by omega) (ok_f (by omega))).symm
 try replace hg13 := Kq.oF hg13
 refine qm ?_
 refine K.mA (K.index_s (m := 0) sT_9 rfl rfl rfl (by omega)) rfl ?_
 refine zN ?_
 refine qp (K.gtr rfl rfl) ?_
 refine qp (K.dB rfl) ?_
 refine sn ?_
 refine K.cond rfl (fun ht17 => ?_) (fun ht17 => ?_)
 ·try replace ht17 := Kq.oT ht17
  refine sr (qa ?_)
  refine sn (K.ret (K.iA (et ?_)))
  first
   | exact absurd ht17 (by decide)
   | exact K.pB rfl (name_f1 (by omega)).symm
   | exact K.pB rfl (name_f2 (i := 0) (by omega) (ok_f (by omega))).symm
 try replace ht17 := Kq.oF ht17
 refine K.skip (K.dA (K.seq (sr (qa ?_))))
 refine sn (K.block ?_)
 refine K.loopW [3] [2, 18, 19, 20, 21, 22, 23, 24, 25, 26, 27, 28, 29, 30, 31, 32, 33, 34, 35, 36, 37, 38, 39, 40, 41, 42, 43, 44, 45, 46, 47, 48, 49, 50, 51] (fun vi L => ∃ i : Nat, vi = [.int .i64 (i : Int)] ∧ L = [] ∧ i ≤ s.size ∧ ∀ j, j < i → okC j (K.bt s j) = true) (fun vi => s.size - (intOf (K.nth vi 0)).toNat) ?_ ?_
 ·exact ⟨0, rfl, rfl, Nat.zero_le _, fun j hj => absurd hj (Nat.not_lt_zero j)⟩
 intro vi vr L hJ
 obtain ⟨i, rfl, rfl, hil, hall⟩ := hJ
 refine zY ?_
 refine K.seq (sr ?_)
 iterate 2 refine qm ?_
 refine qp (K.len_s sT_9 rfl) ?_
 refine qp (K.lss rfl rfl) ?_
 refine sn ?_
 refine K.cond rfl (fun ht21 => ?_) (fun ht21 => ?_)
 ·try replace ht21 := Kq.oT ht21
  have hi : i < s.size := by omega
  refine K.skip (K.dA (K.seq (K.block (sr ?_))))
  iterate 2 refine qm ?_
  refine K.mA (K.index_s (m := _) sT_9 rfl rfl rfl (by omega)) rfl ?_
  refine zN ?_
  refine qp (K.lss rfl rfl) ?_
  refine qm ?_
  refine K.split 28 rfl (fun hg28 => ?_) (fun hg28 => ?_)
  ·try replace hg28 := Kq.oT hg28
   iterate 4 refine qs ?_
   refine qp (K.sA rfl) ?_
   iterate 3 refine qm ?_
   refine K.mA (K.index_s (m := _) sT_9 rfl rfl rfl (by omega)) rfl ?_
   refine zN ?_
   refine qp (K.lss rfl rfl) ?_
   refine qm ?_
   refine K.split 39 rfl (fun hg39 => ?_) (fun hg39 => ?_)
   ·try replace hg39 := Kq.oT hg39
    iterate 4 refine qs ?_
    refine qp (K.sA rfl) ?_
    refine qp (K.sA rfl) ?_
    iterate 3 refine qm ?_
    refine K.mA (K.index_s (m := _) sT_9 rfl rfl rfl (by omega)) rfl ?_
    refine zN ?_
    refine qp (K.neq rfl rfl) ?_
    refine qp (K.sA rfl) ?_
    refine sn ?_
    refine K.cond rfl (fun ht51 => ?_) (fun ht51 => ?_)
    ·try replace ht51 := Kq.oT ht51
     refine sr (qa ?_)
     refine sn (K.ret (K.qA (K.iA (K.iA (K.qA (K.iA (et ?_)))))))
     first
      | exact absurd ht51 (by decide)
      | exact K.pB rfl (name_f2 hi (ok_f (by omega))).symm
    try replace ht51 := Kq.oF ht51
    refine K.skip (K.kA (K.dA (K.gA (qm ?_))))
    refine qp (K.tA rfl rfl (by omega)) ?_
    refine qa ?_
    refine K.lA ?_
    have hc : okC i (K.bt s i) = true := by
     first
      | exact absurd ht51 (by decide)
      | (rcases Nat.eq_zero_or_pos i with h0 | h0 <;> first | exact ok_t (by omega) | (subst h0; exact ok_t (by omega)))
    exact K.rA (L'' := []) [.int .i64 ((i : Int) + 1)] ⟨i + 1, rfl, rfl, by omega, K.fB hall hc⟩ (by simp [K.nth, intOf]; omega) Kq.s0 (by kernel_rfl)
   try replace hg39 := Kq.oF hg39
   iterate 2 refine qm ?_
   refine K.mA (K.index_s (m := _) sT_9 rfl rfl rfl (by omega)) rfl ?_
   refine zN ?_
   refine qp (K.gtr rfl rfl) ?_
   refine qp (K.dB rfl) ?_
   refine qp (K.sA rfl) ?_
   refine qm ?_
   refine K.split 46 rfl (fun hg46 => ?_) (fun hg46 => ?_)
   ·try replace hg46 := Kq.oT hg46
    iterate 2 refine qm ?_
    refine K.mA (K.index_s (m := _) sT_9 rfl rfl rfl (by omega)) rfl ?_
    refine zN ?_
    refine qp (K.neq rfl rfl) ?_
    refine qp (K.sA rfl) ?_
    refine sn ?_
    refine K.cond rfl (fun ht51 => ?_) (fun ht51 => ?_)
    ·try replace ht51 := Kq.oT ht51
     refine sr (qa ?_)
     refine sn (K.ret (K.qA (K.iA (K.iA (K.qA (K.iA (et ?_)))))))
     first
      | exact absurd ht51 (by decide)
      | exact K.pB rfl (name_f2 hi (ok_f (by omega))).symm
    try replace ht51 := Kq.oF ht51
    refine K.skip (K.kA (K.dA (K.gA (qm ?_))))
    refine qp (K.tA rfl rfl (by omega)) ?_
    refine qa ?_
    refine K.lA ?_
    have hc : okC i (K.bt s i) = true := by
     first
      | exact absurd ht51 (by decide)
      | (rcases Nat.eq_zero_or_pos i with h0 | h0 <;> first | exact ok_t (by omega) | (subst h0; exact ok_t (by omega)))
    exact K.rA (L'' := []) [.int .i64 ((i : Int) + 1)] ⟨i + 1, rfl, rfl, by omega, K.fB hall hc⟩ (by simp [K.nth, intOf]; omega) Kq.s0 (by kernel_rfl)
   try replace hg46 := Kq.oF hg46
   iterate 4 refine qs ?_
   refine qp (K.dB rfl) ?_
   refine sn (K.oA rfl ?_)
   refine K.skip (K.kA (K.dA (K.gA (qm ?_))))
   refine qp (K.tA rfl rfl (by omega)) ?_
   refine qa ?_
   refine K.lA ?_
   have hc : okC i (K.bt s i) = true := by
    first
     | exact absurd ht51 (by decide)
     | (rcases Nat.eq_zero_or_pos i with h0 | h0 <;> first | exact ok_t (by omega) | (subst h0; exact ok_t (by omega)))
   exact K.rA (L'' := []) [.int .i64 ((i : Int) + 1)] ⟨i + 1, rfl, rfl, by omega, K.fB hall hc⟩ (by simp [K.nth, intOf]; omega) Kq.s0 (by kernel_rfl)
  try replace hg28 := Kq.oF hg28
  iterate 2 refine qm ?_
  refine K.mA (K.index_s (m := _) sT_9 rfl rfl rfl (by omega)) rfl ?_
  refine zN ?_
  refine qp (K.gtr rfl rfl) ?_
  refine qp (K.dB rfl) ?_
  refine qm ?_
  refine K.split 34 rfl (fun hg34 => ?_) (fun hg34 => ?_)
  ·try replace hg34 := Kq.oT hg34
   iterate 2 refine qm ?_
   refine K.mA (K.index_s (m := _) sT_9 rfl rfl rfl (by omega)) rfl ?_
   refine zN ?_
   refine qp (K.lss rfl rfl) ?_
   refine qm ?_
   refine K.split 39 rfl (fun hg39 => ?_) (fun hg39 => ?_)
   ·try replace hg39 := Kq.oT hg39
    iterate 4 refine qs ?_
    refine qp (K.sA rfl) ?_
    refine qp (K.sA rfl) ?_
    iterate 3 refine qm ?_
    refine K.mA (K.index_s (m := _) sT_9 rfl rfl rfl (by omega)) rfl ?_
    refine zN ?_
    refine qp (K.neq rfl rfl) ?_
    refine qp (K.sA rfl) ?_
    refine sn ?_
    refine K.cond rfl (fun ht51 => ?_) (fun ht51 => ?_)
    ·try replace ht51 := Kq.oT ht51
     refine sr (qa ?_)
     refine sn (K.ret (K.qA (K.iA (K.iA (K.qA (K.iA (et ?_)))))))
     first
      | exact absurd ht51 (by decide)
      | exact K.pB rfl (name_f2 hi (ok_f (by omega))).symm
    try replace ht51 := Kq.oF ht51
    refine K.skip (K.kA (K.dA (K.gA (qm ?_))))
    refine qp (K.tA rfl rfl (by omega)) ?_
    refine qa ?_
    refine K.lA ?_
    have hc : okC i (K.bt s i) = true := by
     first
      | exact absurd ht51 (by decide)
      | (rcases Nat.eq_zero_or_pos i with h0 | h0 <;> first | exact ok_t (by omega) | (subst h0; exact ok_t (by omega)))
    exact K.rA (L'' := []) [.int .i64 ((i : Int) + 1)] ⟨i + 1, rfl, rfl, by omega, K.fB hall hc⟩ (by simp [K.nth, intOf]; omega) Kq.s0 (by kernel_rfl)
   try replace hg39 := Kq.oF hg39
   iterate 2 refine qm ?_
   refine K.mA (K.index_s (m := _) sT_9 rfl rfl rfl (by omega)) rfl ?_
   refine zN ?_
   refine qp (K.gtr rfl rfl) ?_
   refine qp (K.dB rfl) ?_
   refine qp (K.sA rfl) ?_
   refine qm ?_
   refine K.split 46 rfl (fun hg46 => ?_) (fun hg46 => ?_)
   ·try replace hg46 := Kq.oT hg46
    iterate 2 refine qm ?_
    refine K.mA (K.index_s (m := _) sT_9 rfl rfl rfl (by omega)) rfl ?_
    refine zN ?_
    refine qp (K.neq rfl rfl) ?_
    refine qp (K.sA rfl) ?_
    refine sn ?_
    refine K.cond rfl (fun ht51 => ?_) (fun ht51 => ?_)
    ·try replace ht51 := Kq.oT ht51
     refine sr (qa ?_)
     refine sn (K.ret (K.qA (K.iA (K.iA (K.qA (K.iA (et ?_)))))))
     first
      | exact absurd ht51 (by decide)
      | exact K.pB rfl (name_f2 hi (ok_f (by omega))).symm
    try replace ht51 := Kq.oF ht51
    refine K.skip (K.kA (K.dA (K.gA (qm ?_))))
    refine qp (K.tA rfl rfl (by omega)) ?_
    refine qa ?_
    refine K.lA ?_
    have hc : okC i (K.bt s i) = true := by
     first
      | exact absurd ht51 (by decide)
      | (rcases Nat.eq_zero_or_pos i with h0 | h0 <;> first | exact ok_t (by omega) | (subst h0; exact ok_t (by omega)))
    exact K.rA (L'' := []) [.int .i64 ((i : Int) + 1)] ⟨i + 1, rfl, rfl, by omega, K.fB hall hc⟩ (by simp [K.nth, intOf]; omega) Kq.s0 (by kernel_rfl)
   try replace hg46 := Kq.oF hg46
   iterate 4 refine qs ?_
   refine qp (K.dB rfl) ?_
   refine sn (K.oA rfl ?_)
   refine K.skip (K.kA (K.dA (K.gA (qm ?_))))
   refine qp (K.tA rfl rfl (by omega)) ?_
   refine qa ?_
   refine K.lA ?_
   have hc : okC i (K.bt s i) = true := by
    first
     | exact absurd ht51 (by decide)
     | (rcases Nat.eq_zero_or_pos i with h0 | h0 <;> first | exact ok_t (by omega) | (subst h0; exact ok_t (by omega)))
   exact K.rA (L'' := []) [.int .i64 ((i : Int) + 1)] ⟨i + 1, rfl, rfl, by omega, K.fB hall hc⟩ (by simp [K.nth, intOf]; omega) Kq.s0 (by kernel_rfl)
  try replace hg34 := Kq.oF hg34
  iterate 10 refine qs ?_
  refine qp (K.dB rfl) ?_
  refine qm ?_
  iterate 4 refine qs ?_
  refine qp (K.dB rfl) ?_
  refine sn (K.oA rfl ?_)
  refine K.skip (K.kA (K.dA (K.gA (qm ?_))))
  refine qp (K.tA rfl rfl (by omega)) ?_
  refine qa ?_
  refine K.lA ?_
  have hc : okC i (K.bt s i) = true := by
   first
    | exact absurd ht51 (by decide)
    | (rcases Nat.eq_zero_or_pos i with h0 | h0 <;> first | exact ok_t (by omega) | (subst h0; exact ok_t (by omega)))
  exact K.rA (L'' := []) [.int .i64 ((i : Int) + 1)] ⟨i + 1, rfl, rfl, by omega, K.fB hall hc⟩ (by simp [K.nth, intOf]; omega) Kq.s0 (by kernel_rfl)
 try replace ht21 := Kq.oF ht21
 refine K.exit (K.pA (K.pA (K.zA (K.dA (sr (qa ?_))))))
 refine sn (K.ret (et ?_))
 exact K.pB rfl (name_t (by omega) (fun i hi => hall i (by omega))).symm

set_option maxRecDepth 100000 in
theorem c93 {A : Option Addr} {c : Nat} {l : List ByteArray} {s : ByteArray} {w : World} (hX : K.Rd w A 1 eB l) (hn : l.length ≤ 4611686018427387904) :
  Calls Tryz.prog 54 [.slice A l.length c, .string s].toArray w (K.Gives (.int .i64 (K.idx (fun q => nmEq q s) l)) w) := by
 refine K.enter (args := [.slice A l.length c, .string s]) Tryz.func54 rfl (n := 17) rfl ?_
 refine zR ?_
 refine sr (qa ?_)
 refine sn (K.seq (sr (qa ?_)))
 refine sn (K.block ?_)
 refine K.loopW [5] [4, 6, 7, 8, 9, 10, 11, 12, 13, 14, 15, 16, 17, 18] (fun vi L => ∃ k : Nat, vi = [.int .i64 (k : Int)] ∧ L = [] ∧ k ≤ l.length ∧ ∀ j, j < k → (fun q => nmEq q s) (l.getD j default) = false) (fun vi => l.length - (intOf (K.nth vi 0)).toNat) ?_ ?_
 ·exact ⟨0, rfl, rfl, Nat.zero_le _, fun j hj => absurd hj (Nat.not_lt_zero j)⟩
 intro vi vr L hJ
 obtain ⟨k, rfl, rfl, hkn, hall⟩ := hJ
 refine zY ?_
 refine K.seq (sr ?_)
 iterate 2 refine qm ?_
 refine qp (K.aB sl_22 rfl) ?_
 refine qp (K.lss rfl rfl) ?_
 refine sn ?_
 refine K.cond rfl (fun ht9 => ?_) (fun ht9 => ?_)
 ·try replace ht9 := Kq.oT ht9
  have hk : k < l.length := by omega
  refine K.skip (K.dA (K.seq (K.block (sr ?_))))
  iterate 2 refine qm ?_
  refine K.vB (M := []) _ hX.sl sl_22 rfl rfl rfl (by omega) rfl ?_
  intro p14 hp14
  refine zN ?_
  refine ql (K.load1 one_9 rfl (hp14.any)) ?_
  refine qm ?_
  refine qp (K.rC rfl rfl) ?_
  refine sn ?_
  refine K.cond rfl (fun ht17 => ?_) (fun ht17 => ?_)
  ·try replace ht17 := Kq.oT ht17
   refine sr (qm ?_)
   refine qa ?_
   refine sn (K.ret (K.qA (K.iA (K.iA (K.qA (K.iA (et ?_)))))))
   exact K.xA rfl (K.idx_found (p := fun q => nmEq q s) hk hall ht17).symm
  try replace ht17 := Kq.oF ht17
  refine K.skip (K.kA (K.dA (K.gA (qm ?_))))
  refine qp (K.tA rfl rfl (by omega)) ?_
  refine qa ?_
  refine K.lA ?_
  exact K.rA [.int .i64 ((k : Int) + 1)] ⟨k + 1, rfl, rfl, by omega, K.fB hall ht17⟩ (by simp [K.nth, intOf]; omega) Kq.s0 (by kernel_rfl)
 try replace ht9 := Kq.oF ht9
 refine K.exit (K.pA (K.pA (K.zA (K.dA (sr (qa ?_))))))
 refine sn (K.ret (et ?_))
 exact K.xA rfl (K.idx_none (fun j hj => hall j (by omega))).symm

set_option maxRecDepth 100000 in
theorem c58 {A : Option Addr} {c : Nat} {l : List ByteArray} {s : ByteArray} {w : World} (hX : K.Rd w A 1 eB l) (hn : l.length ≤ 4611686018427387904) :
  Calls Tryz.prog 15 [.string s, .slice A l.length c].toArray w (K.Gives (.int .i64 (freshE s l)) w) := by
 refine K.enter (args := [.string s, .slice A l.length c]) Tryz.func15 rfl (n := 10) rfl ?_
 refine zR ?_
 refine sr (qa ?_)
 refine sn (K.seq (sr (qm ?_)))
 refine qc (K.nA cal_53 (fun F w hF hw => c92 w)) ?_
 first | refine K.mA (K.fC rfl) rfl ?_ | refine K.mA (K.not_ rfl) rfl ?_
 refine zN ?_
 refine sn ?_
 refine K.cond rfl (fun ht7 => ?_) (fun ht7 => ?_)
 ·try replace ht7 := Kq.oT ht7
  refine sr (qa ?_)
  refine sn (K.ret (K.iA (et ?_)))
  exact K.xA rfl (by unfold freshE; rw [if_pos (by simpa using ht7)])
 try replace ht7 := Kq.oF ht7
 refine K.skip (K.dA (K.seq (sr ?_)))
 iterate 2 refine qm ?_
 refine qc (K.nA cal_54 (fun F w hF hw => c93 (hX.pass hw) hn)) ?_
 refine qp (K.Pure.eq (K.geq rfl rfl) (show _ = Value.bool (l.any fun q => nmEq q s) from by rw [K.idx_ge])) ?_
 refine sn ?_
 refine K.cond rfl (fun ht11 => ?_) (fun ht11 => ?_)
 ·try replace ht11 := Kq.oT ht11
  refine sr (qa ?_)
  refine sn (K.ret (K.iA (et ?_)))
  exact K.xA rfl (by unfold freshE; rw [if_neg (by simpa using ht7), if_pos ht11])
 try replace ht11 := Kq.oF ht11
 refine K.skip (K.dA (sr (qa ?_)))
 refine sn (K.ret (et ?_))
 exact K.xA rfl (by unfold freshE; rw [if_neg (by simpa using ht7), if_neg (by simpa using ht11)])

set_option maxRecDepth 100000 in
theorem c107 {low high : Int} {A : Option Addr} {c : Nat} {xs : List (Int × Int)} {w : World} (hX : K.Rd w A 2 K.eP xs) (hn : xs.length ≤ 4611686018427387904) :
  Calls Tryz.prog 90 [.slice A xs.length c, .int .i64 low, .int .i64 high].toArray w (K.Gives (.int .i64 (spreadE low high xs)) w) := by
 refine K.enter (args := [.slice A xs.length c, .int .i64 low, .int .i64 high]) Tryz.func90 rfl (n := 44) rfl ?_
 refine zR ?_
 refine sr (qa ?_)
 refine sn (sr (qa ?_))
 refine sn (K.seq (sr (qa ?_)))
 refine sn (K.block ?_)
 refine K.loopW [7, 8] [6, 9, 10, 11, 12, 13, 14, 15, 16, 17, 18, 19, 20, 21, 22, 23, 24, 25, 26, 27, 28, 29, 30, 31, 32, 33, 34, 35, 36, 37, 38, 39, 40, 41, 42, 43, 44, 45] (fun vi L => ∃ (j : Nat) (e : Int), vi = [.int .i64 e, .int .i64 (j : Int)] ∧ L = [] ∧ j ≤ xs.length ∧ (∀ i, i < j → (fun s : Int × Int => decide (¬ ((low ≤ s.1 ∧ s.1 ≤ high) ∧ (low ≤ s.2 ∧ s.2 ≤ high)))) (xs.getD i default) = false) ∧ e = if (xs.take j).any (fun s => decide (s.1 > s.2)) then 2 else 0) (fun vi => xs.length - (intOf (K.nth vi 1)).toNat) ?_ ?_
 ·exact ⟨0, 0, rfl, rfl, Nat.zero_le _, fun i hi => absurd hi (Nat.not_lt_zero i), rfl⟩
 intro vi vr L hJ
 obtain ⟨j, e, rfl, rfl, hjn, hall, he⟩ := hJ
 refine zY ?_
 refine K.seq (sr ?_)
 iterate 2 refine qm ?_
 refine qp (K.aB sl_41 rfl) ?_
 refine qp (K.lss rfl rfl) ?_
 refine sn ?_
 refine K.cond rfl (fun ht12 => ?_) (fun ht12 => ?_)
 ·try replace ht12 := Kq.oT ht12
  have hj : j < xs.length := by omega
  refine K.skip (K.dA (K.seq (K.block (K.seq (sr ?_)))))
  iterate 2 refine qm ?_
  refine K.vB (M := []) _ hX.sl sl_41 rfl rfl rfl (by omega) rfl ?_
  intro p17 hp17
  refine zN ?_
  refine qp (K.fieldAddr fo_46_0 rfl) ?_
  refine ql (K.load1 one_3 rfl ((K.PtrL.fld hp17 (k := 0)).any)) ?_
  iterate 2 refine qm ?_
  refine qc (K.nA cal_14 (fun F w hF hw => c106 w)) ?_
  first | refine K.mA (K.fC rfl) rfl ?_ | refine K.mA (K.not_ rfl) rfl ?_
  refine zN ?_
  refine qm ?_
  refine K.split 24 rfl (fun hg24 => ?_) (fun hg24 => ?_)
  ·try replace hg24 := Kq.oT hg24
   iterate 9 refine qs ?_
   refine qp (K.sA rfl) ?_
   refine sn (K.yA rfl ?_)
   refine sr (qa ?_)
   refine sn (K.ret (K.iA (K.qA (K.iA (K.iA (K.qA (K.iA (et ?_))))))))
   exact K.xA rfl (by unfold spreadE; rw [if_pos (any_t hj (decide_eq_true (by omega)))])
  try replace hg24 := Kq.oF hg24
  iterate 2 refine qm ?_
  refine K.vB (M := []) _ hX.sl sl_41 rfl rfl rfl (by omega) rfl ?_
  intro p27 hp27
  refine zN ?_
  refine qp (K.fieldAddr fo_46_1 rfl) ?_
  refine ql (K.load1 one_3 rfl ((K.PtrL.fld hp27 (k := 1)).any)) ?_
  iterate 2 refine qm ?_
  refine qc (K.nA cal_14 (fun F w hF hw => c106 w)) ?_
  first | refine K.mA (K.fC rfl) rfl ?_ | refine K.mA (K.not_ rfl) rfl ?_
  refine zN ?_
  refine qp (K.dB rfl) ?_
  refine sn ?_
  refine K.cond rfl (fun ht34 => ?_) (fun ht34 => ?_)
  ·try replace ht34 := Kq.oT ht34
   refine sr (qa ?_)
   refine sn (K.ret (K.iA (K.qA (K.iA (K.iA (K.qA (K.iA (et ?_))))))))
   exact K.xA rfl (by unfold spreadE; rw [if_pos (any_t hj (decide_eq_true (by omega)))])
  try replace ht34 := Kq.oF ht34
  refine K.skip (K.dA (K.seq ?_))
  refine K.nB [] uA ?_
  refine dp 0 rfl (K.move) ?_
  refine dp 1 rfl (K.move) ?_
  refine K.d_ix (M := []) 2 _ rfl hX.sl sl_41 rfl rfl rfl (by omega) (by kernel_rfl) rfl ?_
  intro p37 hp37
  refine zN ?_
  refine dp 3 rfl (K.fieldAddr fo_46_0 rfl) ?_
  refine dm 4 rfl (K.load1 one_3 rfl ((K.PtrL.fld hp37 (k := 0)).any)) ?_
  refine dp 5 rfl (K.move) ?_
  refine dp 6 rfl (K.move) ?_
  refine K.d_ix (M := []) 7 _ rfl hX.sl sl_41 rfl rfl rfl (by omega) (by kernel_rfl) rfl ?_
  intro p42 hp42
  refine zN ?_
  refine dp 8 rfl (K.fieldAddr fo_46_1 rfl) ?_
  refine dm 9 rfl (K.load1 one_3 rfl ((K.PtrL.fld hp42 (k := 1)).any)) ?_
  refine dp 10 rfl (K.gtr rfl rfl) ?_
  refine dd (K.dA ?_)
  refine K.cond rfl (fun ht45 => ?_) (fun ht45 => ?_)
  ·try replace ht45 := Kq.oT ht45
   refine K.gA (qa ?_)
   refine K.lA (K.kA (K.dA (K.gA (qm ?_))))
   refine qp (K.tA rfl rfl (by omega)) ?_
   refine qa ?_
   refine K.lA ?_
   first | exact K.rA (L'' := []) [.int .i64 2, .int .i64 ((j : Int) + 1)] ⟨j + 1, 2, rfl, rfl, by omega, K.fB hall (decide_eq_false (by omega)), by rw [any_take hj, decide_eq_true ht45, Bool.or_true]; rfl⟩ (by simp [K.nth, intOf]; omega) (List.nil_sublist _) (by kernel_rfl) | exact K.rA (L'' := []) [.int .i64 e, .int .i64 ((j : Int) + 1)] ⟨j + 1, e, rfl, rfl, by omega, K.fB hall (decide_eq_false (by omega)), by rw [any_take hj, decide_eq_false ht45, Bool.or_false, ← he]⟩ (by simp [K.nth, intOf]; omega) (List.nil_sublist _) (by kernel_rfl)
  try replace ht45 := Kq.oF ht45
  refine K.skip (K.kA (K.dA (K.gA (qm ?_))))
  refine qp (K.tA rfl rfl (by omega)) ?_
  refine qa ?_
  refine K.lA ?_
  first | exact K.rA (L'' := []) [.int .i64 2, .int .i64 ((j : Int) + 1)] ⟨j + 1, 2, rfl, rfl, by omega, K.fB hall (decide_eq_false (by omega)), by rw [any_take hj, decide_eq_true ht45, Bool.or_true]; rfl⟩ (by simp [K.nth, intOf]; omega) (List.nil_sublist _) (by kernel_rfl) | exact K.rA (L'' := []) [.int .i64 e, .int .i64 ((j : Int) + 1)] ⟨j + 1, e, rfl, rfl, by omega, K.fB hall (decide_eq_false (by omega)), by rw [any_take hj, decide_eq_false ht45, Bool.or_false, ← he]⟩ (by simp [K.nth, intOf]; omega) (List.nil_sublist _) (by kernel_rfl)
 try replace ht12 := Kq.oF ht12
 refine K.exit (K.pA (K.pA (K.zA (K.dA (sr (qm ?_))))))
 refine qa ?_
 refine sn (K.ret (et ?_))
 exact K.xA rfl (by unfold spreadE; rw [if_neg (by rw [any_f (fun i hi => hall i (by omega))]; decide), he, take_all (by omega)])

set_option maxRecDepth 100000 in
theorem c94 {a b low high : Int} (w : World) :
  Calls Tryz.prog 55 [.agg #[.int .i64 a, .int .i64 b], .int .i64 low, .int .i64 high].toArray w (K.Gives (.int .i64 (spreadE low high [(a, b)])) w) := by
 refine K.enter (args := [.agg #[.int .i64 a, .int .i64 b], .int .i64 low, .int .i64 high]) Tryz.func55 rfl (n := 9) rfl ?_
 refine zR ?_
 refine sr ?_
 refine qn (K.box) fun b3 => ?_
 refine qa ?_
 refine sn (sr (ql (K.jA kC rfl (K.m0) rfl) ?_))
 refine qn (K.buildSlice (bs61 _ _)) fun b8 => ?_
 iterate 2 refine qm ?_
 refine qc (K.nA cal_90 (fun F w hF hw => c107 (xs := [(a, b)]) (K.Rd.lit hw (hF _ (K.m0)) (fun _ => rfl) (by decide) rfl) (by simp))) ?_
 refine qa ?_
 refine sn (K.ret (et ?_))
 exact K.gives rfl

set_option maxRecDepth 100000 in
theorem c60 {m : Mod} {A B C : Option Addr} {c d e : Nat} {s : StT} {w : World} (hW : 1 ≤ m.W ∧ m.W ≤ 8) (hD : 1 ≤ m.D ∧ m.D ≤ 8) :
  Calls Tryz.prog 19 [.agg #[.int .i64 m.W, .int .i64 m.D, .slice A m.hs.length c, .slice B m.ps.length d, .slice C m.ss.length e], .agg #[.int .i64 s.x, .int .i64 s.y, .int .i64 s.lo, .int .i64 s.hi]].toArray w (K.Gives (.int .i64 (stE m.W m.D s)) w) := by
 refine K.enter (args := [.agg #[.int .i64 m.W, .int .i64 m.D, .slice A m.hs.length c, .slice B m.ps.length d, .slice C m.ss.length e], .agg #[.int .i64 s.x, .int .i64 s.y, .int .i64 s.lo, .int .i64 s.hi]]) Tryz.func19 rfl (n := 28) rfl ?_
 refine zR ?_
 refine sr ?_
 refine qn (K.box) fun b2 => ?_
 refine qn (K.box) fun b3 => ?_
 refine qa ?_
 refine sn (sr (qp (K.aA fo_62_2 rfl) ?_))
 refine ql (K.jA kC rfl (K.m0) rfl) ?_
 refine qc (K.nA cal_55 (fun F w hF hw => c94 w)) ?_
 refine qa ?_
 refine sn (K.seq (sr (qm ?_)))
 refine qp (K.eql rfl rfl) ?_
 refine qm ?_
 refine K.split 11 rfl (fun hg11 => ?_) (fun hg11 => ?_)
 ·try replace hg11 := Kq.oT hg11
  iterate 4 refine qs ?_
  refine qp (K.sA rfl) ?_
  refine qm ?_
  iterate 4 refine qs ?_
  refine qp (K.sA rfl) ?_
  refine sn (K.yA rfl ?_)
  refine sr (qa ?_)
  refine sn (K.ret (K.iA (et ?_)))
  exact K.xA rfl (by first | exact (st_7a hg11).symm | (unfold stE; rw [if_pos (by omega)]))
 try replace hg11 := Kq.oF hg11
 refine qp (K.aA fo_62_0 rfl) ?_
 refine ql (K.fA one_3 rfl (K.m0) rfl) ?_
 refine qc (K.nA cal_17 (fun F w hF hw => c57 w)) ?_
 first | refine K.mA (K.fC rfl) rfl ?_ | refine K.mA (K.not_ rfl) rfl ?_
 refine zN ?_
 refine qp (K.dB rfl) ?_
 refine qm ?_
 refine K.split 17 rfl (fun hg17 => ?_) (fun hg17 => ?_)
 ·try replace hg17 := Kq.oT hg17
  iterate 4 refine qs ?_
  refine qp (K.sA rfl) ?_
  refine sn (K.yA rfl ?_)
  refine sr (qa ?_)
  refine sn (K.ret (K.iA (et ?_)))
  exact K.xA rfl (by first | exact (st_7a hg11).symm | (unfold stE; rw [if_pos (by omega)]))
 try replace hg17 := Kq.oF hg17
 refine qp (K.aA fo_62_1 rfl) ?_
 refine ql (K.fA one_3 rfl (K.m0) rfl) ?_
 refine qc (K.nA cal_17 (fun F w hF hw => c57 w)) ?_
 first | refine K.mA (K.fC rfl) rfl ?_ | refine K.mA (K.not_ rfl) rfl ?_
 refine zN ?_
 refine qp (K.dB rfl) ?_
 refine sn ?_
 refine K.cond rfl (fun ht22 => ?_) (fun ht22 => ?_)
 ·try replace ht22 := Kq.oT ht22
  refine sr (qa ?_)
  refine sn (K.ret (K.iA (et ?_)))
  exact K.xA rfl (by first | exact (st_7a hg11).symm | (unfold stE; rw [if_pos (by omega)]))
 try replace ht22 := Kq.oF ht22
 refine K.skip (K.dA (K.seq (sr (ql (K.jA cC rfl (K.m1) rfl) ?_))))
 refine qp (K.aA fo_62_0 rfl) ?_
 refine ql (K.fA one_3 rfl (K.m0) rfl) ?_
 refine qp (K.aA fo_62_1 rfl) ?_
 refine ql (K.fA one_3 rfl (K.m0) rfl) ?_
 refine qc (K.nA cal_56 (fun F w hF hw => c81 hW hD)) ?_
 refine sn ?_
 refine K.cond rfl (fun ht28 => ?_) (fun ht28 => ?_)
 ·try replace ht28 := Kq.oT ht28
  refine sr (qa ?_)
  refine sn (K.ret (K.iA (et ?_)))
  exact K.xA rfl (by rw [st_rest hg11 (by omega), if_pos ht28])
 try replace ht28 := Kq.oF ht28
 refine K.skip (K.dA (sr (qm ?_)))
 refine qa ?_
 refine sn (K.ret (et ?_))
 exact K.xA rfl (by rw [st_rest hg11 (by omega), if_neg ht28])

end Go.Proofs.YtnhhfkgldoeifaaGreatDoor.Pn
end
section
namespace Go.Proofs.YtnhhfkgldoeifaaGreatDoor.Pn
open Go.RowKit Go
open Go.K (setd setn ev nth over cl eI eP eT setM setF)
attribute [local irreducible] K.blk K.row

set_option maxRecDepth 100000 in
theorem c59 {m : Mod} {A B C : Option Addr} {c d e : Nat} {i : Nat} {w : World} (hW : 1 ≤ m.W ∧ m.W ≤ 8) (hD : 1 ≤ m.D ∧ m.D ≤ 8) (hP : K.Rd w B 5 eN m.ps) (hi : i < m.ps.length) (hm : m.ps.length ≤ 4611686018427387904) :
  Calls Tryz.prog 18 [.agg #[.int .i64 m.W, .int .i64 m.D, .slice A m.hs.length c, .slice B m.ps.length d, .slice C m.ss.length e], .int .i64 (i : Int)].toArray w (K.Gives (.int .i64 (pinR m.W m.D m.ps i)) w) := by
 refine K.enter (args := [.agg #[.int .i64 m.W, .int .i64 m.D, .slice A m.hs.length c, .slice B m.ps.length d, .slice C m.ss.length e], .int .i64 (i : Int)]) Tryz.func18 rfl (n := 54) rfl ?_
 refine zR ?_
 refine sr ?_
 refine qn (K.box) fun b2 => ?_
 refine qa ?_
 refine sn (sr (qp (K.aA bC rfl) ?_))
 refine ql (K.fA lC rfl (K.m0) rfl) ?_
 refine qm ?_
 refine K.vB (M := []) _ hP.sl oC rfl rfl rfl (by omega) rfl ?_
 intro p10 hp10
 refine zN ?_
 refine ql (K.uB ag_48 rfl (hp10.any) rfl) ?_
 refine qn (K.alloc zr_48) fun b5 => ?_
 refine qt (K.vA sz_48 rfl rfl rfl rfl (K.rp0)) ?_
 refine sn (K.seq (sr (ql (K.jA cC rfl (K.m1) rfl) ?_)))
 refine qp (K.aA fo_48_1 rfl) ?_
 refine ql (K.fA one_3 rfl (K.m0) rfl) ?_
 refine qp (K.aA fo_48_2 rfl) ?_
 refine ql (K.fA one_3 rfl (K.m0) rfl) ?_
 refine qc (K.nA cal_56 (fun F w hF hw => c81 hW hD)) ?_
 first | refine K.mA (K.fC rfl) rfl ?_ | refine K.mA (K.not_ rfl) rfl ?_
 refine zN ?_
 refine sn ?_
 refine K.cond rfl (fun ht18 => ?_) (fun ht18 => ?_)
 ·try replace ht18 := Kq.oT ht18
  refine sr (qa ?_)
  refine sn (K.ret (K.iA (et ?_)))
  exact K.xA rfl (pinR_4 ht18).symm
 try replace ht18 := Kq.oF ht18
 have hF : onF m.W m.D (m.ps.getD i default).x (m.ps.getD i default).y := Decidable.not_not.1 ht18
 refine K.skip (K.dA (K.seq (sr (qa ?_))))
 refine sn (K.block ?_)
 refine K.loopW [6] [4, 19, 20, 21, 22, 23, 24, 25, 26, 27, 28, 29, 30, 31, 32, 33, 34, 35, 36, 37, 38, 39, 40, 41, 42, 43] (fun vi L => ∃ k : Nat, vi = [.int .i64 (k : Int)] ∧ L = [K.blk b5 48 [.string (m.ps.getD i default).nm, .int .i64 (m.ps.getD i default).x, .int .i64 (m.ps.getD i default).y, .int .i64 (m.ps.getD i default).len, .int .i64 (m.ps.getD i default).most], K.blk b2 30 [.int .i64 m.W, .int .i64 m.D, .slice A m.hs.length c, .slice B m.ps.length d, .slice C m.ss.length e]] ∧ k ≤ i ∧ ∀ j, j < k → atP (m.ps.getD i default).x (m.ps.getD i default).y (m.ps.getD j default) = false) (fun vi => i - (intOf (K.nth vi 0)).toNat) ?_ ?_
 ·exact ⟨0, rfl, rfl, Nat.zero_le _, fun j hj => absurd hj (Nat.not_lt_zero j)⟩
 intro vi vr L hJ
 obtain ⟨k, rfl, rfl, hkn, hall⟩ := hJ
 refine zY ?_
 refine K.seq (sr ?_)
 iterate 2 refine qm ?_
 refine qp (K.lss rfl rfl) ?_
 refine sn ?_
 refine K.cond rfl (fun ht21 => ?_) (fun ht21 => ?_)
 ·try replace ht21 := Kq.oT ht21
  have hk : k < i := by omega
  refine K.skip (K.dA (K.seq (K.block (K.seq ?_))))
  refine K.nB [] uA ?_
  refine dp 0 rfl (K.aA bC rfl) ?_
  refine dm 1 rfl (K.fA lC rfl (K.m1) rfl) ?_
  refine dp 2 rfl (K.move) ?_
  refine K.d_ix (M := []) 3 _ rfl hP.sl oC rfl rfl rfl (by omega) (by kernel_rfl) rfl ?_
  intro p27 hp27
  refine zN ?_
  refine dp 4 rfl (K.fieldAddr fo_48_1 rfl) ?_
  refine dm 5 rfl (K.load1 one_3 rfl ((K.PtrL.fld hp27 (k := 1)).any)) ?_
  refine dp 6 rfl (K.aA fo_48_1 rfl) ?_
  refine dm 7 rfl (K.fA one_3 rfl (K.m0) rfl) ?_
  refine dp 8 rfl (K.eql rfl rfl) ?_
  refine dp 9 rfl (K.move) ?_
  refine K.dsplit 33 rfl (fun hg33 => ?_) (fun hg33 => ?_)
  ·try replace hg33 := Kq.oT hg33
   refine dp 10 rfl (K.aA bC rfl) ?_
   refine dm 11 rfl (K.fA lC rfl (K.m1) rfl) ?_
   refine dp 12 rfl (K.move) ?_
   refine K.d_ix (M := []) 13 _ rfl hP.sl oC rfl rfl rfl (by omega) (by kernel_rfl) rfl ?_
   intro p37 hp37
   refine zN ?_
   refine dp 14 rfl (K.fieldAddr fo_48_2 rfl) ?_
   refine dm 15 rfl (K.load1 one_3 rfl ((K.PtrL.fld hp37 (k := 2)).any)) ?_
   refine dp 16 rfl (K.aA fo_48_2 rfl) ?_
   refine dm 17 rfl (K.fA one_3 rfl (K.m0) rfl) ?_
   refine dp 18 rfl (K.eql rfl rfl) ?_
   refine dp 19 rfl (K.sA rfl) ?_
   refine dd (K.dA ?_)
   refine K.cond rfl (fun ht43 => ?_) (fun ht43 => ?_)
   ·try replace ht43 := Kq.oT ht43
    refine sr (qa ?_)
    refine sn (K.ret (K.qA (K.iA (K.iA (K.qA (K.iA (et ?_)))))))
    exact K.xA rfl (pinR_2 hF (anyT_t hk (by omega) (decide_eq_true ⟨hg33, ht43⟩))).symm
   try replace ht43 := Kq.oF ht43
   refine K.skip (K.kA (K.dA (K.gA (qm ?_))))
   refine qp (K.tA rfl rfl (by omega)) ?_
   refine qa ?_
   refine K.lA ?_
   have hz : atP (m.ps.getD i default).x (m.ps.getD i default).y (m.ps.getD k default) = false := by
    first
     | exact decide_eq_false (fun h => ht43 h.2)
     | exact decide_eq_false (fun h => hg33 h.1)
   exact K.rA (L'' := [K.blk b5 48 [.string (m.ps.getD i default).nm, .int .i64 (m.ps.getD i default).x, .int .i64 (m.ps.getD i default).y, .int .i64 (m.ps.getD i default).len, .int .i64 (m.ps.getD i default).most], K.blk b2 30 [.int .i64 m.W, .int .i64 m.D, .slice A m.hs.length c, .slice B m.ps.length d, .slice C m.ss.length e]]) [.int .i64 ((k : Int) + 1)] ⟨k + 1, rfl, rfl, by omega, K.fB hall hz⟩ (by simp [K.nth, intOf]; omega) Kq.s0 (by kernel_rfl)
  try replace hg33 := Kq.oF hg33
  refine K.d_skip 10 rfl (by kernel_rfl) rfl ?_
  refine zN ?_
  refine K.d_skip 11 rfl (by kernel_rfl) rfl ?_
  refine zN ?_
  refine K.d_skip 12 rfl (by kernel_rfl) rfl ?_
  refine zN ?_
  refine K.d_skip 13 rfl (by kernel_rfl) rfl ?_
  refine zN ?_
  refine K.d_skip 14 rfl (by kernel_rfl) rfl ?_
  refine zN ?_
  refine K.d_skip 15 rfl (by kernel_rfl) rfl ?_
  refine zN ?_
  refine K.d_skip 16 rfl (by kernel_rfl) rfl ?_
  refine zN ?_
  refine K.d_skip 17 rfl (by kernel_rfl) rfl ?_
  refine zN ?_
  refine K.d_skip 18 rfl (by kernel_rfl) rfl ?_
  refine zN ?_
  refine dp 19 rfl (K.dB rfl) ?_
  refine dd (K.dA (K.oA rfl ?_))
  refine K.skip (K.kA (K.dA (K.gA (qm ?_))))
  refine qp (K.tA rfl rfl (by omega)) ?_
  refine qa ?_
  refine K.lA ?_
  have hz : atP (m.ps.getD i default).x (m.ps.getD i default).y (m.ps.getD k default) = false := by
   first
    | exact decide_eq_false (fun h => ht43 h.2)
    | exact decide_eq_false (fun h => hg33 h.1)
  exact K.rA (L'' := [K.blk b5 48 [.string (m.ps.getD i default).nm, .int .i64 (m.ps.getD i default).x, .int .i64 (m.ps.getD i default).y, .int .i64 (m.ps.getD i default).len, .int .i64 (m.ps.getD i default).most], K.blk b2 30 [.int .i64 m.W, .int .i64 m.D, .slice A m.hs.length c, .slice B m.ps.length d, .slice C m.ss.length e]]) [.int .i64 ((k : Int) + 1)] ⟨k + 1, rfl, rfl, by omega, K.fB hall hz⟩ (by simp [K.nth, intOf]; omega) Kq.s0 (by kernel_rfl)
 try replace ht21 := Kq.oF ht21
 refine K.exit (K.pA (K.pA (K.zA (K.dA (K.seq (sr (qp (K.aA fo_48_3 rfl) ?_)))))))
 refine ql (K.fA one_3 rfl (K.m0) rfl) ?_
 refine qc (K.nA cal_17 (fun F w hF hw => c57 w)) ?_
 first | refine K.mA (K.fC rfl) rfl ?_ | refine K.mA (K.not_ rfl) rfl ?_
 refine zN ?_
 refine qm ?_
 refine K.split 48 rfl (fun hg48 => ?_) (fun hg48 => ?_)
 ·try replace hg48 := Kq.oT hg48
  iterate 6 refine qs ?_
  refine qp (K.sA rfl) ?_
  refine sn (K.yA rfl ?_)
  refine sr (qa ?_)
  refine sn (K.ret (K.iA (et ?_)))
  exact K.xA rfl (by rw [pinR_0 hF (anyT_f (by omega) (fun j hj => hall j (by omega))), lenE_7 (by omega)])
 try replace hg48 := Kq.oF hg48
 refine qp (K.aA fo_48_4 rfl) ?_
 refine ql (K.fA one_3 rfl (K.m0) rfl) ?_
 refine qp (K.aA fo_48_3 rfl) ?_
 refine ql (K.fA one_3 rfl (K.m0) rfl) ?_
 refine qc (K.nA cal_17 (fun F w hF hw => c57 w)) ?_
 first | refine K.mA (K.fC rfl) rfl ?_ | refine K.mA (K.not_ rfl) rfl ?_
 refine zN ?_
 refine qp (K.dB rfl) ?_
 refine sn ?_
 refine K.cond rfl (fun ht55 => ?_) (fun ht55 => ?_)
 ·try replace ht55 := Kq.oT ht55
  refine sr (qa ?_)
  refine sn (K.ret (K.iA (et ?_)))
  exact K.xA rfl (by rw [pinR_0 hF (anyT_f (by omega) (fun j hj => hall j (by omega))), lenE_7 (by omega)])
 try replace ht55 := Kq.oF ht55
 refine K.skip (K.dA (sr (qa ?_)))
 refine sn (K.ret (et ?_))
 exact K.xA rfl (by rw [pinR_0 hF (anyT_f (by omega) (fun j hj => hall j (by omega))), lenE_0 (by omega)])

set_option maxRecDepth 100000 in
theorem c17 {m : Mod} {A B C : Option Addr} {c d e : Nat} {w : World} (hH : K.Rd w A 1 K.eI m.hs) (hP : K.Rd w B 5 eN m.ps) (hS : K.Rd w C 4 eS m.ss) (hn : m.hs.length ≤ 4611686018427387904) (hm : m.ps.length ≤ 4611686018427387904) (hk : m.ss.length ≤ 4611686018427387904) :
  Calls Tryz.prog 5 [.agg #[.int .i64 m.W, .int .i64 m.D, .slice A m.hs.length c, .slice B m.ps.length d, .slice C m.ss.length e]].toArray w (K.Gives (K.tup3 (chk m)) w) := by
 refine K.enter (args := [.agg #[.int .i64 m.W, .int .i64 m.D, .slice A m.hs.length c, .slice B m.ps.length d, .slice C m.ss.length e]]) Tryz.func5 rfl (n := 103) rfl ?_
 refine zR ?_
 refine sr ?_
 refine qn (K.box) fun b1 => ?_
 iterate 3 refine qa ?_
 refine sn (K.seq (sr (qp (K.aA fo_30_0 rfl) ?_)))
 refine ql (K.fA one_3 rfl (K.m0) rfl) ?_
 refine qc (K.nA cal_17 (fun F w hF hw => c57 w)) ?_
 first | refine K.mA (K.fC rfl) rfl ?_ | refine K.mA (K.not_ rfl) rfl ?_
 refine zN ?_
 refine qm ?_
 refine K.split 15 rfl (fun hg15 => ?_) (fun hg15 => ?_)
 ·try replace hg15 := Kq.oT hg15
  iterate 4 refine qs ?_
  refine qp (K.sA rfl) ?_
  refine sn (K.yA rfl ?_)
  refine sr ?_
  iterate 3 refine qa ?_
  refine sn (K.ret (K.iA ?_))
  refine K.wA (fun w _ => K.wB rfl w) ?_
  exact K.gives (by rw [chk_1 (by omega)]; rfl)
 try replace hg15 := Kq.oF hg15
 refine qp (K.aA fo_30_1 rfl) ?_
 refine ql (K.fA one_3 rfl (K.m0) rfl) ?_
 refine qc (K.nA cal_17 (fun F w hF hw => c57 w)) ?_
 first | refine K.mA (K.fC rfl) rfl ?_ | refine K.mA (K.not_ rfl) rfl ?_
 refine zN ?_
 refine qp (K.dB rfl) ?_
 refine sn ?_
 refine K.cond rfl (fun ht20 => ?_) (fun ht20 => ?_)
 ·try replace ht20 := Kq.oT ht20
  refine sr ?_
  iterate 3 refine qa ?_
  refine sn (K.ret (K.iA ?_))
  refine K.wA (fun w _ => K.wB rfl w) ?_
  exact K.gives (by rw [chk_1 (by omega)]; rfl)
 try replace ht20 := Kq.oF ht20
 have hWD : (1 ≤ m.W ∧ m.W ≤ 8) ∧ (1 ≤ m.D ∧ m.D ≤ 8) := by omega
 have hwd := wd_bd hWD
 refine K.skip (K.dA (K.seq (sr (qp (K.aA fo_30_2 rfl) ?_))))
 refine ql (K.fA gC rfl (K.m0) rfl) ?_
 refine qp (K.aB yB rfl) ?_
 refine qp (K.aA fo_30_0 rfl) ?_
 refine ql (K.fA one_3 rfl (K.m0) rfl) ?_
 refine qp (K.aA fo_30_1 rfl) ?_
 refine ql (K.fA one_3 rfl (K.m0) rfl) ?_
 refine qp (K.mul_i64 rfl rfl (by omega)) ?_
 refine qp (K.neq rfl rfl) ?_
 refine sn ?_
 refine K.cond rfl (fun ht29 => ?_) (fun ht29 => ?_)
 ·try replace ht29 := Kq.oT ht29
  refine sr ?_
  iterate 3 refine qa ?_
  refine sn (K.ret (K.iA ?_))
  refine K.wA (fun w _ => K.wB rfl w) ?_
  exact K.gives (by rw [chk_2 hWD ht29]; rfl)
 try replace ht29 := Kq.oF ht29
 have hl : (m.hs.length : Int) = m.W * m.D := Decidable.not_not.1 ht29
 refine K.skip (K.dA (K.seq (sr (qa ?_))))
 refine sn (K.block ?_)
 refine K.loopW [5] [2, 3, 4, 30, 31, 32, 33, 34, 35, 36, 37, 38, 39, 40, 41, 42, 43, 44] (fun vi L => ∃ k : Nat, vi = [.int .i64 (k : Int)] ∧ L = [K.blk b1 30 [.int .i64 m.W, .int .i64 m.D, .slice A m.hs.length c, .slice B m.ps.length d, .slice C m.ss.length e]] ∧ k ≤ m.hs.length ∧ ∀ j, j < k → hgE (m.hs.getD j default) = 0) (fun vi => m.hs.length - (intOf (K.nth vi 0)).toNat) ?_ ?_
 ·exact ⟨0, rfl, rfl, Nat.zero_le _, fun j hj => absurd hj (Nat.not_lt_zero j)⟩
 intro vi vr L hJ
 obtain ⟨k, rfl, rfl, hkn, hall⟩ := hJ
 refine zY ?_
 refine K.seq (sr (qm ?_))
 refine qp (K.aA fo_30_2 rfl) ?_
 refine ql (K.fA gC rfl (K.m0) rfl) ?_
 refine qp (K.aB yB rfl) ?_
 refine qp (K.lss rfl rfl) ?_
 refine sn ?_
 refine K.cond rfl (fun ht34 => ?_) (fun ht34 => ?_)
 ·try replace ht34 := Kq.oT ht34
  have hk : k < m.hs.length := by omega
  refine K.skip (K.dA (K.seq (K.block (sr (qp (K.aA fo_30_2 rfl) ?_)))))
  refine ql (K.fA gC rfl (K.m0) rfl) ?_
  refine qm ?_
  refine K.vB (M := []) _ hH.sl yB rfl rfl rfl (by omega) rfl ?_
  intro p40 hp40
  refine zN ?_
  refine ql (K.load1 one_3 rfl (hp40.any)) ?_
  refine qc (K.nA cal_17 (fun F w hF hw => c57 w)) ?_
  first | refine K.mA (K.fC rfl) rfl ?_ | refine K.mA (K.not_ rfl) rfl ?_
  refine zN ?_
  refine sn ?_
  refine K.cond rfl (fun ht43 => ?_) (fun ht43 => ?_)
  ·try replace ht43 := Kq.oT ht43
   refine sr (qm ?_)
   iterate 3 refine qa ?_
   refine sn (K.ret (K.qA (K.iA (K.iA (K.qA (K.iA ?_))))))
   refine K.wA (fun w _ => K.wB rfl w) ?_
   exact K.gives (by rw [chk_h hWD hl hk hall ht43]; rfl)
  try replace ht43 := Kq.oF ht43
  refine K.skip (K.kA (K.dA (K.gA (qm ?_))))
  refine qp (K.tA rfl rfl (by omega)) ?_
  refine qa ?_
  refine K.lA ?_
  exact K.rA (L'' := [K.blk b1 30 [.int .i64 m.W, .int .i64 m.D, .slice A m.hs.length c, .slice B m.ps.length d, .slice C m.ss.length e]]) [.int .i64 ((k : Int) + 1)] ⟨k + 1, rfl, rfl, by omega, K.fB hall (hg_0 (Decidable.not_not.1 ht43))⟩ (by simp [K.nth, intOf]; omega) Kq.s0 (by kernel_rfl)
 try replace ht34 := Kq.oF ht34
 refine K.exit (K.pA (K.pA (K.zA (K.dA (K.seq (sr (qp (K.aA bC rfl) ?_)))))))
 refine ql (K.fA lC rfl (K.m0) rfl) ?_
 refine qp (K.aB oC rfl) ?_
 refine qp (K.gtr rfl rfl) ?_
 refine sn ?_
 refine K.cond rfl (fun ht48 => ?_) (fun ht48 => ?_)
 ·try replace ht48 := Kq.oT ht48
  refine sr ?_
  iterate 3 refine qa ?_
  refine sn (K.ret (K.iA ?_))
  refine K.wA (fun w _ => K.wB rfl w) ?_
  exact K.gives (by rw [chk_4 hWD hl (fst_hs (fun j hj => hall j (by omega))) (by omega)]; rfl)
 try replace ht48 := Kq.oF ht48
 refine K.skip (K.dA (K.seq ?_))
 refine K.jC (e := 9) (size := 1) ?_
 refine K.gA (qa ?_)
 refine sn (K.seq (sr (qa ?_)))
 refine sn (K.block ?_)
 refine K.loopW [6, 7] [2, 3, 4, 8, 49, 50, 51, 52, 53, 54, 55, 56, 57, 58, 59, 60, 61, 62, 63, 64, 65, 66, 67, 68, 69, 70, 71, 72, 73, 74, 75, 76, 77, 78, 79, 80, 81] (fun vi L => ∃ (k : Nat) (Q1 : Option Addr) (q1 : Nat), vi = [.slice Q1 ((m.ps.take k).map (·.nm)).length q1, .int .i64 (k : Int)] ∧ L = [K.row (.slice Q1 ((m.ps.take k).map (·.nm)).length q1) 9 1 ((m.ps.take k).map (·.nm)).length (((m.ps.take k).map (·.nm)).flatMap eB), K.blk b1 30 [.int .i64 m.W, .int .i64 m.D, .slice A m.hs.length c, .slice B m.ps.length d, .slice C m.ss.length e]] ∧ k ≤ m.ps.length ∧ ∀ j, j < k → pinE m.W m.D m.ps j = 0) (fun vi => m.ps.length - (intOf (K.nth vi 1)).toNat) ?_ ?_
 ·exact ⟨0, none, 0, rfl, rfl, Nat.zero_le _, fun j hj => absurd hj (Nat.not_lt_zero j)⟩
 intro vi vr L hJ
 obtain ⟨k, Q1, q1, rfl, rfl, hkn, hallp⟩ := hJ
 have hnl : ((m.ps.take k).map (·.nm)).length = k := by rw [List.length_map, List.length_take]; omega
 have hnl2 : ((m.ps.take k).map (·.nm)).length ≤ 4611686018427387904 := by rw [hnl]; omega
 refine zY ?_
 refine K.seq (sr (qm ?_))
 refine qp (K.aA bC rfl) ?_
 refine ql (K.fA lC rfl (K.m1) rfl) ?_
 refine qp (K.aB oC rfl) ?_
 refine qp (K.lss rfl rfl) ?_
 refine sn ?_
 refine K.cond rfl (fun ht53 => ?_) (fun ht53 => ?_)
 ·try replace ht53 := Kq.oT ht53
  have hk : k < m.ps.length := by omega
  refine K.skip (K.dA (K.seq (K.block (K.seq ?_))))
  refine K.iC K.m0 (fun hQ => ?_)
  refine K.gA (qp (K.aA bC rfl) ?_)
  refine ql (K.fA lC rfl (K.m1) rfl) ?_
  refine qm ?_
  refine K.vB (M := []) _ hP.sl oC rfl rfl rfl (by omega) rfl ?_
  intro p59 hp59
  refine zN ?_
  refine qp (K.fieldAddr fo_48_0 rfl) ?_
  refine ql (K.load1 one_9 rfl ((K.PtrL.fld hp59 (k := 0)).any)) ?_
  refine qm ?_
  refine qc (K.nA cal_15 (fun F w hF hw => (by have hh := K.Rd.own hw (hF _ (K.m0)) hQ (e := eB) (fun _ => rfl) (by decide); exact c58 (l := ((m.ps.take k).map (·.nm))) hh hnl2))) ?_
  refine qa ?_
  refine sn (sr (qm ?_))
  refine qp (K.aA bC rfl) ?_
  refine ql (K.fA lC rfl (K.m1) rfl) ?_
  refine qm ?_
  refine K.vB (M := []) _ hP.sl oC rfl rfl rfl (by omega) rfl ?_
  intro p68 hp68
  refine zN ?_
  refine qp (K.fieldAddr fo_48_0 rfl) ?_
  refine ql (K.load1 one_9 rfl ((K.PtrL.fld hp68 (k := 0)).any)) ?_
  refine qn (K.buildSlice (bs86 _)) fun b71 => ?_
  refine K.xB (K.append el_22 rfl rfl (K.PtrL.own' (K.m0)) rfl rfl (by decide) (by omega) (by omega) (fun _ _ => K.rp1)) rfl ?_
  rintro ⟨g72, c72⟩ _
  refine zN ?_
  refine qa ?_
  refine sn (K.seq (sr (qm ?_)))
  refine qp (K.eql rfl rfl) ?_
  refine sn ?_
  refine K.cond rfl (fun ht74 => ?_) (fun ht74 => ?_)
  ·try replace ht74 := Kq.oT ht74
   refine K.gA (ql (K.jA cC rfl (K.m2) rfl) ?_)
   refine qm ?_
   refine qc (K.nA cal_18 (fun F w hF hw => c59 hWD.1 hWD.2 (hP.pass hw) hk hm)) ?_
   refine qa ?_
   refine sn (sr (qm ?_))
   refine qp (K.neq rfl rfl) ?_
   refine sn ?_
   refine K.cond rfl (fun ht79 => ?_) (fun ht79 => ?_)
   ·try replace ht79 := Kq.oT ht79
    refine sr ?_
    iterate 2 refine qm ?_
    iterate 3 refine qa ?_
    refine sn (K.ret (K.qA (K.iA (K.iA (K.qA (K.iA ?_))))))
    refine K.wA (fun w _ => K.wB rfl w) ?_
    have hne : pinE m.W m.D m.ps k ≠ 0 := by rw [pin_fresh, if_pos ht74]; exact ht79
    exact K.gives (by rw [chk_p hWD hl (fst_hs (fun j hj => hall j (by omega))) (by omega) hk hallp hne, pin_fresh, if_pos ht74]; rfl)
   try replace ht79 := Kq.oF ht79
   refine K.skip (K.kA (K.dA (K.gA (qm ?_))))
   refine qp (K.tA rfl rfl (by omega)) ?_
   refine qa ?_
   refine K.lA ?_
   have hpz : pinE m.W m.D m.ps k = 0 := by
    rw [pin_fresh]
    first
     | (rw [if_pos ht74]; omega)
     | (rw [if_neg ht74]; omega)
   exact K.rA (L'' := [K.row (.slice (some ⟨g72, 0, none⟩) (((m.ps.take k).map (·.nm)).length + 1) c72) 9 1 (((m.ps.take k).map (·.nm)).length + 1) (((m.ps.take k).map (·.nm)).flatMap eB ++ [.string (m.ps.getD k default).nm]), K.blk b1 30 [.int .i64 m.W, .int .i64 m.D, .slice A m.hs.length c, .slice B m.ps.length d, .slice C m.ss.length e]]) [.slice (some ⟨g72, 0, none⟩) (((m.ps.take k).map (·.nm)).length + 1) c72, .int .i64 ((k : Int) + 1)] ⟨k + 1, some ⟨g72, 0, none⟩, c72, by rw [take_succ_map _ hk, List.length_append]; rfl, by rw [take_succ_map _ hk, List.length_append, List.flatMap_append]; rfl, by omega, K.fB hallp hpz⟩ (by simp [K.nth, intOf]; omega) (by repeat (first | exact List.Sublist.refl _ | apply List.Sublist.cons)) (by kernel_rfl)
  try replace ht74 := Kq.oF ht74
  refine K.skip (K.dA (sr (qm ?_)))
  refine qp (K.neq rfl rfl) ?_
  refine sn ?_
  refine K.cond rfl (fun ht79 => ?_) (fun ht79 => ?_)
  ·try replace ht79 := Kq.oT ht79
   refine sr ?_
   iterate 2 refine qm ?_
   iterate 3 refine qa ?_
   refine sn (K.ret (K.qA (K.iA (K.iA (K.qA (K.iA ?_))))))
   refine K.wA (fun w _ => K.wB rfl w) ?_
   have hne : pinE m.W m.D m.ps k ≠ 0 := by rw [pin_fresh, if_neg ht74]; exact ht79
   exact K.gives (by rw [chk_p hWD hl (fst_hs (fun j hj => hall j (by omega))) (by omega) hk hallp hne, pin_fresh, if_neg ht74]; rfl)
  try replace ht79 := Kq.oF ht79
  refine K.skip (K.kA (K.dA (K.gA (qm ?_))))
  refine qp (K.tA rfl rfl (by omega)) ?_
  refine qa ?_
  refine K.lA ?_
  have hpz : pinE m.W m.D m.ps k = 0 := by
   rw [pin_fresh]
   first
    | (rw [if_pos ht74]; omega)
    | (rw [if_neg ht74]; omega)
  exact K.rA (L'' := [K.row (.slice (some ⟨g72, 0, none⟩) (((m.ps.take k).map (·.nm)).length + 1) c72) 9 1 (((m.ps.take k).map (·.nm)).length + 1) (((m.ps.take k).map (·.nm)).flatMap eB ++ [.string (m.ps.getD k default).nm]), K.blk b1 30 [.int .i64 m.W, .int .i64 m.D, .slice A m.hs.length c, .slice B m.ps.length d, .slice C m.ss.length e]]) [.slice (some ⟨g72, 0, none⟩) (((m.ps.take k).map (·.nm)).length + 1) c72, .int .i64 ((k : Int) + 1)] ⟨k + 1, some ⟨g72, 0, none⟩, c72, by rw [take_succ_map _ hk, List.length_append]; rfl, by rw [take_succ_map _ hk, List.length_append, List.flatMap_append]; rfl, by omega, K.fB hallp hpz⟩ (by simp [K.nth, intOf]; omega) (by repeat (first | exact List.Sublist.refl _ | apply List.Sublist.cons)) (by kernel_rfl)
 try replace ht53 := Kq.oF ht53
 refine K.exit (K.pA (K.pA (K.zA (K.dA (K.seq (sr (qp (K.aA fo_30_4 rfl) ?_)))))))
 refine ql (K.fA one_28 rfl (K.m1) rfl) ?_
 refine qp (K.aB tC rfl) ?_
 refine qp (K.gtr rfl rfl) ?_
 refine sn ?_
 refine K.cond rfl (fun ht85 => ?_) (fun ht85 => ?_)
 ·try replace ht85 := Kq.oT ht85
  refine sr ?_
  iterate 3 refine qa ?_
  refine sn (K.ret (K.iA ?_))
  refine K.wA (fun w _ => K.wB rfl w) ?_
  exact K.gives (by rw [chk_6 hWD hl (fst_hs (fun j hj => hall j (by omega))) (by omega) (fst_ps (fun j hj => hallp j (by omega))) (by omega)]; rfl)
 try replace ht85 := Kq.oF ht85
 refine K.skip (K.dA (K.seq (sr (qa ?_))))
 refine sn (K.block ?_)
 refine K.loopW [9] [2, 3, 4, 10, 86, 87, 88, 89, 90, 91, 92, 93, 94, 95, 96, 97, 98, 99, 100, 101, 102, 103] (fun vi L => ∃ (j : Nat), vi = [.int .i64 (j : Int)] ∧ L = [K.row (.slice Q1 ((m.ps.take k).map (·.nm)).length q1) 9 1 ((m.ps.take k).map (·.nm)).length (((m.ps.take k).map (·.nm)).flatMap eB), K.blk b1 30 [.int .i64 m.W, .int .i64 m.D, .slice A m.hs.length c, .slice B m.ps.length d, .slice C m.ss.length e]] ∧ j ≤ m.ss.length ∧ ∀ i, i < j → stE m.W m.D (m.ss.getD i default) = 0) (fun vi => m.ss.length - (intOf (K.nth vi 0)).toNat) ?_ ?_
 ·exact ⟨0, rfl, rfl, Nat.zero_le _, fun j hj => absurd hj (Nat.not_lt_zero j)⟩
 intro vi vr L hJ
 obtain ⟨j, rfl, rfl, hjn, halls⟩ := hJ
 refine zY ?_
 refine K.seq (sr (qm ?_))
 refine qp (K.aA fo_30_4 rfl) ?_
 refine ql (K.fA one_28 rfl (K.m1) rfl) ?_
 refine qp (K.aB tC rfl) ?_
 refine qp (K.lss rfl rfl) ?_
 refine sn ?_
 refine K.cond rfl (fun ht90 => ?_) (fun ht90 => ?_)
 ·try replace ht90 := Kq.oT ht90
  have hj : j < m.ss.length := by omega
  refine K.skip (K.dA (K.seq (K.block (K.seq ?_))))
  refine K.nB [] uA ?_
  refine dm 0 rfl (K.jA cC rfl (K.m1) rfl) ?_
  refine dp 1 rfl (K.aA fo_30_4 rfl) ?_
  refine dm 2 rfl (K.fA one_28 rfl (K.m1) rfl) ?_
  refine dp 3 rfl (K.move) ?_
  refine K.d_ix (M := []) 4 _ rfl hS.sl tC rfl rfl rfl (by omega) (by kernel_rfl) rfl ?_
  intro p97 hp97
  refine zN ?_
  refine dm 5 rfl (K.uB ag_62 rfl (hp97.any) rfl) ?_
  refine K.kB 6 rfl (K.nA cal_19 (fun F w hF hw => c60 (s := m.ss.getD j default) hWD.1 hWD.2)) (fun _ h => h) (by kernel_rfl) rfl ?_
  refine zN ?_
  refine dp 7 rfl (K.assign) ?_
  refine dd (K.dA (sr (qm ?_)))
  refine qp (K.neq rfl rfl) ?_
  refine sn ?_
  refine K.cond rfl (fun ht101 => ?_) (fun ht101 => ?_)
  ·try replace ht101 := Kq.oT ht101
   refine sr ?_
   iterate 2 refine qm ?_
   iterate 3 refine qa ?_
   refine sn (K.ret (K.qA (K.iA (K.iA (K.qA (K.iA ?_))))))
   refine K.wA (fun w _ => K.wB rfl w) ?_
   exact K.gives (by rw [chk_s hWD hl (fst_hs (fun j hj => hall j (by omega))) (by omega) (fst_ps (fun j hj => hallp j (by omega))) (by omega) hj halls ht101]; rfl)
  try replace ht101 := Kq.oF ht101
  refine K.skip (K.kA (K.dA (K.gA (qm ?_))))
  refine qp (K.tA rfl rfl (by omega)) ?_
  refine qa ?_
  refine K.lA ?_
  exact K.rA (L'' := [K.row (.slice Q1 ((m.ps.take k).map (·.nm)).length q1) 9 1 ((m.ps.take k).map (·.nm)).length (((m.ps.take k).map (·.nm)).flatMap eB), K.blk b1 30 [.int .i64 m.W, .int .i64 m.D, .slice A m.hs.length c, .slice B m.ps.length d, .slice C m.ss.length e]]) [.int .i64 ((j : Int) + 1)] ⟨j + 1, rfl, rfl, by omega, K.fB halls (Decidable.not_not.1 ht101)⟩ (by simp [K.nth, intOf]; omega) (by repeat (first | exact List.Sublist.refl _ | apply List.Sublist.cons)) (by kernel_rfl)
 try replace ht90 := Kq.oF ht90
 refine K.exit (K.pA (K.pA (K.zA (K.dA (sr ?_)))))
 iterate 3 refine qa ?_
 refine sn (K.ret ?_)
 refine K.wA (fun w _ => K.wB rfl w) ?_
 exact K.gives (by rw [chk_0 hWD hl (fst_hs (fun j hj => hall j (by omega))) (by omega) (fst_ps (fun j hj => hallp j (by omega))) (by omega) (by rw [K.fst_none (fun j hj => halls j (by omega))])]; rfl)

theorem g17 {m : Mod} {A B C : Option Addr} {c d e : Nat} {w : World} (hH : K.Rd w A 1 K.eI m.hs) (hP : K.Rd w B 5 eN m.ps) (hS : K.Rd w C 4 eS m.ss) (hn : m.hs.length ≤ 4611686018427387904) (hm : m.ps.length ≤ 4611686018427387904) (hk : m.ss.length ≤ 4611686018427387904) (hc : chk m = (0, 0, 0)) : Calls Tryz.prog 5 [.agg #[.int .i64 m.W, .int .i64 m.D, .slice A m.hs.length c, .slice B m.ps.length d, .slice C m.ss.length e]].toArray w (K.Gives (.tuple #[.int .i64 0, .int .i64 0, .int .i64 0]) w) := by
 have h := c17 (c := c) (d := d) (e := e) hH hP hS hn hm hk
 rw [hc] at h; exact h

end Go.Proofs.YtnhhfkgldoeifaaGreatDoor.Pn
end
