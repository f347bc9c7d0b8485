/-
  Plain lemmas and plain functions, several texts joined.
  Conditions stand in each theorem.
-/
import Derived.Test.YthkgnhcknkjgdaaDoorK2
import Derived.Test.YthkgnhcknkjgdaaDoorK7
set_option linter.unusedSimpArgs false
set_option linter.unusedVariables false
/-
  What the functions of pin and of its reference compute, as plain functions: models, errors, fields between, what hides.
  No conditions: no program is in sight.
-/
namespace Go.Proofs.YthkgnhcknkjgdaaDoor
open Go
def outB (lo hi : Int) (xs : List Int) : Bool := xs.any fun n => decide (n < lo) || decide (n > hi)
structure PinT where
  nm : ByteArray
  x : Int
  y : Int
  len : Int
  most : Int
instance : Inhabited PinT := ⟨⟨ByteArray.empty, 0, 0, 0, 0⟩⟩
structure StT where
  x : Int
  y : Int
  lo : Int
  hi : Int
instance : Inhabited StT := ⟨⟨0, 0, 0, 0⟩⟩
/-- A model. -/
structure Mod where
  W : Int
  D : Int
  hs : List Int
  ps : List PinT
  ss : List StT
def eN (p : PinT) : List Value := [.string p.nm, .int .i64 p.x, .int .i64 p.y, .int .i64 p.len, .int .i64 p.most]
def eS (s : StT) : List Value := [.int .i64 s.x, .int .i64 s.y, .int .i64 s.lo, .int .i64 s.hi]
/-- The frame of a walk, worked out (a shorter text than the tactic's own). -/
theorem zN {A B : Prop} (k : A) (e : B = A := by first | (dsimp only [K.setd, K.setn, K.ev, K.nth, K.over, K.cl, K.eI, K.eP, K.eT, eN, eS, List.map, List.append, List.drop, List.take] <;> rfl) | rfl) : B := e ▸ k
theorem zn {A B : Prop} (k : A) (e : B = A := by dsimp only [K.setd, K.setn, K.ev, K.nth] <;> rfl) : B := e ▸ k
section
open Go.RowKit
variable {P : Program} {w0 : World} {L : List K.Chunk} {Q : Exit → Act → World → Prop} {l : List Value} {ops : Array Oper} {rest : List Oper} {o : Oper} {v : Value} {d : Option Tmp} {ty : TypeId} {ps : String} {af : Array Edge} {g : Option (Nat × Bool)} {A : Prop} {x : Operand} {id i : Nat}
theorem qp (h : K.Pure P o l v) (k : A) (hg : K.wantL ops.toList l o.guard = true := by exact rfl) (e : K.Hold w0 L (wpList P ops Q rest (K.fr (K.setd l o.dst v))) = A := by dsimp only [K.setd, K.setn, K.ev, K.nth] <;> rfl) : K.Hold w0 L (wpList P ops Q (o :: rest) (K.fr l)) := K.seq_pure h hg (e ▸ k)
theorem qm (k : A) (hg : K.wantL ops.toList l g = true := by exact rfl) (e : K.Hold w0 L (wpList P ops Q rest (K.fr (K.setd l d (K.ev l x)))) = A := by dsimp only [K.setd, K.setn, K.ev, K.nth] <;> rfl) : K.Hold w0 L (wpList P ops Q (⟨d, .move x, ty, ps, af, g⟩ :: rest) (K.fr l)) := K.seq_pure K.move hg (e ▸ k)
theorem qa (k : A) (hg : K.wantL ops.toList l g = true := by exact rfl) (e : K.Hold w0 L (wpList P ops Q rest (K.fr (K.setd l d (K.ev l x)))) = A := by dsimp only [K.setd, K.setn, K.ev, K.nth] <;> rfl) : K.Hold w0 L (wpList P ops Q (⟨d, .assign x, ty, ps, af, g⟩ :: rest) (K.fr l)) := K.seq_pure K.assign hg (e ▸ k)
theorem qx {vs : List Value} (k : A) (hx : K.ev l x = .tuple vs.toArray := by exact rfl) (hi : Nat.blt i vs.length = true := by exact rfl) (hg : K.wantL ops.toList l g = true := by exact rfl) (e : K.Hold w0 L (wpList P ops Q rest (K.fr (K.setd l d (K.nth vs i)))) = A := by dsimp only [K.setd, K.setn, K.ev, K.nth] <;> rfl) : K.Hold w0 L (wpList P ops Q (⟨d, .extract x i, ty, ps, af, g⟩ :: rest) (K.fr l)) := K.seq_pure (K.extract hx hi) hg (e ▸ k)
theorem qs (k : A) (hg : K.wantL ops.toList l o.guard = false := by exact rfl) (e : K.Hold w0 L (wpList P ops Q rest (K.fr (K.setd l o.dst undef))) = A := by dsimp only [K.setd, K.setn, K.ev, K.nth] <;> rfl) : K.Hold w0 L (wpList P ops Q (o :: rest) (K.fr l)) := K.seq_skip hg (e ▸ k)
theorem sn {J : Act → World → Prop} (k : K.Hold w0 L (J (K.fr l))) : K.Hold w0 L (wpList P ops (Exit.then J Q) [] (K.fr l)) := K.seq_nil (K.norm_then k)
theorem sr {lo : List Oper} {y : Code} (k : K.Hold w0 L (wpList P lo.toArray (Exit.then (y.wp P Q) Q) lo (K.fr l))) : K.Hold w0 L ((Code.seq (Code.region id lo.toArray false) y).wp P Q (K.fr l)) := K.seq (K.region_lit k)
end
def okC (i : Nat) (b : Int) : Bool := decide ((97 ≤ b ∧ b ≤ 122) ∨ (0 < i ∧ ((48 ≤ b ∧ b ≤ 57) ∨ b = 45)))
/-- The string is a name. -/
def nameB (s : ByteArray) : Bool := decide (1 ≤ s.size ∧ s.size ≤ 16) && (List.range s.size).all fun i => okC i (K.bt s i)
def nmEq (a b : ByteArray) : Bool := a.toList == b.toList
@[reducible] def onF (W D x y : Int) : Prop := (0 ≤ x ∧ x ≤ W - 1) ∧ (0 ≤ y ∧ y ≤ D - 1)
def pinP (m : Mod) (i : Nat) : PinT := m.ps.getD i default
def lenE (p : PinT) : Int := if (0 ≤ p.len ∧ p.len ≤ 300) ∧ (0 ≤ p.most ∧ p.most ≤ 300) ∧ p.len ≤ p.most then 0 else 7
def atP (x y : Int) (q : PinT) : Bool := decide (q.x = x ∧ q.y = y)
/-- The error of a pin. -/
def pinE (W D : Int) (ps : List PinT) (i : Nat) : Int :=
  if nameB (ps.getD i default).nm = false then 6
  else if ((ps.take i).any fun q => nmEq q.nm (ps.getD i default).nm) = true then 5
  else if ¬ onF W D (ps.getD i default).x (ps.getD i default).y then 4
  else if (ps.take i).any (atP (ps.getD i default).x (ps.getD i default).y) = true then 2
  else lenE (ps.getD i default)
/-- The error of a stand. -/
def stE (W D : Int) (s : StT) : Int :=
  if ¬ (((-20 ≤ s.x ∧ s.x ≤ 20) ∧ (-20 ≤ s.y ∧ s.y ≤ 20)) ∧ ((0 ≤ s.lo ∧ s.lo ≤ 2000) ∧ (0 ≤ s.hi ∧ s.hi ≤ 2000))) then 7
  else if onF W D s.x s.y then 4
  else if s.lo > s.hi then 2 else 0
def hgE (h : Int) : Int := if 0 ≤ h ∧ h ≤ 500 then 0 else 7
/-- The part, index and error of a model. -/
def chk (m : Mod) : Int × Int × Int :=
  if ¬ ((1 ≤ m.W ∧ m.W ≤ 8) ∧ (1 ≤ m.D ∧ m.D ≤ 8)) then (1, 0, 7)
  else if (m.hs.length : Int) ≠ m.W * m.D then (1, 0, 3)
  else if (K.fst hgE m.hs).2 ≠ 0 then (1, K.fst hgE m.hs)
  else if m.ps.length > 6 then (2, 0, 3)
  else if (K.fst (pinE m.W m.D m.ps) (List.range m.ps.length)).2 ≠ 0 then (2, K.fst (pinE m.W m.D m.ps) (List.range m.ps.length))
  else if m.ss.length > 5 then (3, 0, 3)
  else if (K.fst (stE m.W m.D) m.ss).2 ≠ 0 then (3, K.fst (stE m.W m.D) m.ss)
  else (0, 0, 0)
section
variable {m : Mod}
theorem chk_1 (h : ¬ ((1 ≤ m.W ∧ m.W ≤ 8) ∧ (1 ≤ m.D ∧ m.D ≤ 8))) : chk m = (1, 0, 7) := by unfold chk; rw [if_pos h]
theorem chk_2 (h1 : (1 ≤ m.W ∧ m.W ≤ 8) ∧ (1 ≤ m.D ∧ m.D ≤ 8)) (h : (m.hs.length : Int) ≠ m.W * m.D) : chk m = (1, 0, 3) := by unfold chk; rw [if_neg (fun h' => h' h1), if_pos h]
theorem chk_3 (h1 : (1 ≤ m.W ∧ m.W ≤ 8) ∧ (1 ≤ m.D ∧ m.D ≤ 8)) (h2 : (m.hs.length : Int) = m.W * m.D) (h : (K.fst hgE m.hs).2 ≠ 0) : chk m = (1, K.fst hgE m.hs) := by
  unfold chk; rw [if_neg (fun h' => h' h1), if_neg (fun h' => h' h2), if_pos h]
theorem chk_4 (h1 : (1 ≤ m.W ∧ m.W ≤ 8) ∧ (1 ≤ m.D ∧ m.D ≤ 8)) (h2 : (m.hs.length : Int) = m.W * m.D) (h3 : (K.fst hgE m.hs).2 = 0) (h : m.ps.length > 6) : chk m = (2, 0, 3) := by
  unfold chk; rw [if_neg (fun h' => h' h1), if_neg (fun h' => h' h2), if_neg (fun h' => h' h3), if_pos h]
theorem chk_5 (h1 : (1 ≤ m.W ∧ m.W ≤ 8) ∧ (1 ≤ m.D ∧ m.D ≤ 8)) (h2 : (m.hs.length : Int) = m.W * m.D) (h3 : (K.fst hgE m.hs).2 = 0) (h4 : ¬ m.ps.length > 6) (h : (K.fst (pinE m.W m.D m.ps) (List.range m.ps.length)).2 ≠ 0) : chk m = (2, K.fst (pinE m.W m.D m.ps) (List.range m.ps.length)) := by
  unfold chk; rw [if_neg (fun h' => h' h1), if_neg (fun h' => h' h2), if_neg (fun h' => h' h3), if_neg h4, if_pos h]
theorem chk_6 (h1 : (1 ≤ m.W ∧ m.W ≤ 8) ∧ (1 ≤ m.D ∧ m.D ≤ 8)) (h2 : (m.hs.length : Int) = m.W * m.D) (h3 : (K.fst hgE m.hs).2 = 0) (h4 : ¬ m.ps.length > 6) (h5 : (K.fst (pinE m.W m.D m.ps) (List.range m.ps.length)).2 = 0) (h : m.ss.length > 5) : chk m = (3, 0, 3) := by
  unfold chk; rw [if_neg (fun h' => h' h1), if_neg (fun h' => h' h2), if_neg (fun h' => h' h3), if_neg h4, if_neg (fun h' => h' h5), if_pos h]
theorem chk_7 (h1 : (1 ≤ m.W ∧ m.W ≤ 8) ∧ (1 ≤ m.D ∧ m.D ≤ 8)) (h2 : (m.hs.length : Int) = m.W * m.D) (h3 : (K.fst hgE m.hs).2 = 0) (h4 : ¬ m.ps.length > 6) (h5 : (K.fst (pinE m.W m.D m.ps) (List.range m.ps.length)).2 = 0) (h6 : ¬ m.ss.length > 5) (h : (K.fst (stE m.W m.D) m.ss).2 ≠ 0) : chk m = (3, K.fst (stE m.W m.D) m.ss) := by
  unfold chk; rw [if_neg (fun h' => h' h1), if_neg (fun h' => h' h2), if_neg (fun h' => h' h3), if_neg h4, if_neg (fun h' => h' h5), if_neg h6, if_pos h]
theorem chk_0 (h1 : (1 ≤ m.W ∧ m.W ≤ 8) ∧ (1 ≤ m.D ∧ m.D ≤ 8)) (h2 : (m.hs.length : Int) = m.W * m.D) (h3 : (K.fst hgE m.hs).2 = 0) (h4 : ¬ m.ps.length > 6) (h5 : (K.fst (pinE m.W m.D m.ps) (List.range m.ps.length)).2 = 0) (h6 : ¬ m.ss.length > 5) (h7 : (K.fst (stE m.W m.D) m.ss).2 = 0) : chk m = (0, 0, 0) := by
  unfold chk; rw [if_neg (fun h' => h' h1), if_neg (fun h' => h' h2), if_neg (fun h' => h' h3), if_neg h4, if_neg (fun h' => h' h5), if_neg h6, if_neg (fun h' => h' h7)]
theorem pin_6 {W D : Int} {ps : List PinT} {i : Nat} (h : nameB (ps.getD i default).nm = false) : pinE W D ps i = 6 := by unfold pinE; rw [if_pos h]
theorem pin_5 {W D : Int} {ps : List PinT} {i : Nat} (h1 : nameB (ps.getD i default).nm = true) (h : ((ps.take i).any fun q => nmEq q.nm (ps.getD i default).nm) = true) : pinE W D ps i = 5 := by unfold pinE; rw [if_neg (by rw [h1]; simp), if_pos h]
theorem pin_4 {W D : Int} {ps : List PinT} {i : Nat} (h1 : nameB (ps.getD i default).nm = true) (h2 : ((ps.take i).any fun q => nmEq q.nm (ps.getD i default).nm) = false) (h : ¬ onF W D (ps.getD i default).x (ps.getD i default).y) : pinE W D ps i = 4 := by unfold pinE; rw [if_neg (by rw [h1]; simp), if_neg (by rw [h2]; simp), if_pos h]
theorem pin_2 {W D : Int} {ps : List PinT} {i : Nat} (h1 : nameB (ps.getD i default).nm = true) (h2 : ((ps.take i).any fun q => nmEq q.nm (ps.getD i default).nm) = false) (h3 : onF W D (ps.getD i default).x (ps.getD i default).y) (h : (ps.take i).any (atP (ps.getD i default).x (ps.getD i default).y) = true) : pinE W D ps i = 2 := by
  unfold pinE; rw [if_neg (by rw [h1]; simp), if_neg (by rw [h2]; simp), if_neg (fun h' => h' h3), if_pos h]
theorem pin_7 {W D : Int} {ps : List PinT} {i : Nat} (h1 : nameB (ps.getD i default).nm = true) (h2 : ((ps.take i).any fun q => nmEq q.nm (ps.getD i default).nm) = false) (h3 : onF W D (ps.getD i default).x (ps.getD i default).y) (h4 : (ps.take i).any (atP (ps.getD i default).x (ps.getD i default).y) = false) : pinE W D ps i = lenE (ps.getD i default) := by
  unfold pinE; rw [if_neg (by rw [h1]; simp), if_neg (by rw [h2]; simp), if_neg (fun h' => h' h3), if_neg (by rw [h4]; simp)]
end
/-- What Fresh returns. -/
def freshE (s : ByteArray) (l : List ByteArray) : Int := if nameB s = false then 6 else if (l.any fun q => nmEq q s) = true then 5 else 0
/-- The error of a pin but its name. -/
def pinR (W D : Int) (ps : List PinT) (i : Nat) : Int :=
  if ¬ onF W D (ps.getD i default).x (ps.getD i default).y then 4
  else if (ps.take i).any (atP (ps.getD i default).x (ps.getD i default).y) = true then 2
  else lenE (ps.getD i default)
theorem pinR_4 {W D : Int} {ps : List PinT} {i : Nat} (h : ¬ onF W D (ps.getD i default).x (ps.getD i default).y) : pinR W D ps i = 4 := by unfold pinR; rw [if_pos h]
theorem pinR_2 {W D : Int} {ps : List PinT} {i : Nat} (h1 : onF W D (ps.getD i default).x (ps.getD i default).y) (h : (ps.take i).any (atP (ps.getD i default).x (ps.getD i default).y) = true) : pinR W D ps i = 2 := by unfold pinR; rw [if_neg (fun h' => h' h1), if_pos h]
theorem pinR_0 {W D : Int} {ps : List PinT} {i : Nat} (h1 : onF W D (ps.getD i default).x (ps.getD i default).y) (h : (ps.take i).any (atP (ps.getD i default).x (ps.getD i default).y) = false) : pinR W D ps i = lenE (ps.getD i default) := by unfold pinR; rw [if_neg (fun h' => h' h1), if_neg (by rw [h]; simp)]
theorem lenE_7 {p : PinT} (h : ¬ ((0 ≤ p.len ∧ p.len ≤ 300) ∧ (0 ≤ p.most ∧ p.most ≤ 300) ∧ p.len ≤ p.most)) : lenE p = 7 := by unfold lenE; rw [if_neg h]
theorem lenE_0 {p : PinT} (h : (0 ≤ p.len ∧ p.len ≤ 300) ∧ (0 ≤ p.most ∧ p.most ≤ 300) ∧ p.len ≤ p.most) : lenE p = 0 := by unfold lenE; rw [if_pos h]
theorem pin_fresh {W D : Int} {ps : List PinT} {i : Nat} : pinE W D ps i = if freshE (ps.getD i default).nm ((ps.take i).map (·.nm)) = 0 then pinR W D ps i else freshE (ps.getD i default).nm ((ps.take i).map (·.nm)) := by
  have e : (((ps.take i).map (·.nm)).any fun q => nmEq q (ps.getD i default).nm) = (ps.take i).any fun q => nmEq q.nm (ps.getD i default).nm := by rw [List.any_map]; rfl
  unfold pinE freshE pinR
  rw [e]
  split
  · simp
  · split
    · simp
    · simp
/-- What a model is that is good. -/
structure Good (m : Mod) : Prop where
  w : 1 ≤ m.W ∧ m.W ≤ 8
  d : 1 ≤ m.D ∧ m.D ≤ 8
  l : (m.hs.length : Int) = m.W * m.D
  h : ∀ h ∈ m.hs, 0 ≤ h ∧ h ≤ 500
  n : m.ps.length ≤ 6
  p : ∀ i, i < m.ps.length → onF m.W m.D (m.ps.getD i default).x (m.ps.getD i default).y ∧ (0 ≤ (m.ps.getD i default).len ∧ (m.ps.getD i default).len ≤ (m.ps.getD i default).most ∧ (m.ps.getD i default).most ≤ 300)
  u : ∀ i, i < m.ps.length → ∀ j, j < i → ¬ ((m.ps.getD j default).x = (m.ps.getD i default).x ∧ (m.ps.getD j default).y = (m.ps.getD i default).y)
  k : m.ss.length ≤ 5
  s : ∀ s ∈ m.ss, ((-20 ≤ s.x ∧ s.x ≤ 20) ∧ (-20 ≤ s.y ∧ s.y ≤ 20)) ∧ (0 ≤ s.lo ∧ s.lo ≤ s.hi ∧ s.hi ≤ 2000) ∧ ¬ onF m.W m.D s.x s.y
theorem fst_zero {E : Type} {q : E → Int} {xs : List E} : (K.fst q xs).2 = 0 ↔ ∀ x ∈ xs, q x = 0 := by
  unfold K.fst
  cases h : xs.findIdx? (fun x => q x != 0) with
  | none =>
    have h' := List.findIdx?_eq_none_iff.1 h
    simpa using h'
  | some i =>
    obtain ⟨hi, h1, _⟩ := List.findIdx?_eq_some_iff_getElem.1 h
    simp only [List.getElem?_eq_getElem hi]
    constructor
    · intro h2; simp [h2] at h1
    · intro h2; exact h2 _ (List.getElem_mem hi)
theorem chk_part {m : Mod} : (chk m).2.2 = 0 ↔ ((1 ≤ m.W ∧ m.W ≤ 8) ∧ (1 ≤ m.D ∧ m.D ≤ 8)) ∧ (m.hs.length : Int) = m.W * m.D ∧ (K.fst hgE m.hs).2 = 0 ∧ ¬ m.ps.length > 6 ∧ (K.fst (pinE m.W m.D m.ps) (List.range m.ps.length)).2 = 0 ∧ ¬ m.ss.length > 5 ∧ (K.fst (stE m.W m.D) m.ss).2 = 0 := by
  constructor
  · intro h
    by_cases h1 : (1 ≤ m.W ∧ m.W ≤ 8) ∧ (1 ≤ m.D ∧ m.D ≤ 8)
    · by_cases h2 : (m.hs.length : Int) = m.W * m.D
      · by_cases h3 : (K.fst hgE m.hs).2 = 0
        · by_cases h4 : m.ps.length > 6
          · rw [chk_4 h1 h2 h3 h4] at h; cases h
          · by_cases h5 : (K.fst (pinE m.W m.D m.ps) (List.range m.ps.length)).2 = 0
            · by_cases h6 : m.ss.length > 5
              · rw [chk_6 h1 h2 h3 h4 h5 h6] at h; cases h
              · by_cases h7 : (K.fst (stE m.W m.D) m.ss).2 = 0
                · exact ⟨h1, h2, h3, h4, h5, h6, h7⟩
                · rw [chk_7 h1 h2 h3 h4 h5 h6 h7] at h; exact absurd h h7
            · rw [chk_5 h1 h2 h3 h4 h5] at h; exact absurd h h5
        · rw [chk_3 h1 h2 h3] at h; exact absurd h h3
      · rw [chk_2 h1 h2] at h; cases h
    · rw [chk_1 h1] at h; cases h
  · rintro ⟨h1, h2, h3, h4, h5, h6, h7⟩
    rw [chk_0 h1 h2 h3 h4 h5 h6 h7]
theorem anyT_f {E : Type} [Inhabited E] {xs : List E} {q : E → Bool} {i : Nat} (hi : i ≤ xs.length) (h : ∀ j, j < i → q (xs.getD j default) = false) : (xs.take i).any q = false := by
  rw [List.any_eq_false]
  intro x hx
  obtain ⟨j, hj, rfl⟩ := List.mem_take_iff_getElem.1 hx
  have := h j (by omega)
  rw [List.getD_eq_getElem?_getD, List.getElem?_eq_getElem (by omega)] at this
  simpa using this
theorem anyT_t {E : Type} [Inhabited E] {xs : List E} {q : E → Bool} {i k : Nat} (hk : k < i) (hi : i ≤ xs.length) (h : q (xs.getD k default) = true) : (xs.take i).any q = true :=
  List.any_eq_true.2 ⟨xs.getD k default, by
    rw [List.getD_eq_getElem?_getD, List.getElem?_eq_getElem (by omega)]
    exact List.mem_take_iff_getElem.2 ⟨k, by omega, rfl⟩, h⟩
theorem any_false_at {E : Type} [Inhabited E] {xs : List E} {q : E → Bool} {i : Nat} (h : (xs.take i).any q = false) {j : Nat} (hj : j < i) (hi : i ≤ xs.length) : q (xs.getD j default) = false := by
  have h1 := List.any_eq_false.1 h (xs.getD j default) (by
    rw [List.getD_eq_getElem?_getD, List.getElem?_eq_getElem (by omega)]
    exact List.mem_take_iff_getElem.2 ⟨j, by omega, rfl⟩)
  simpa using h1
theorem chk_good {m : Mod} (h : (chk m).2.2 = 0) : Good m := by
  obtain ⟨h1, h2, h3, h4, h5, h6, h7⟩ := chk_part.1 h
  have hp : ∀ i, i < m.ps.length → pinE m.W m.D m.ps i = 0 := fun i hi => fst_zero.1 h5 i (List.mem_range.2 hi)
  refine ⟨h1.1, h1.2, h2, fun x hx => ?_, by omega, fun i hi => ?_, fun i hi j hj => ?_, by omega, fun s hs => ?_⟩
  · have := fst_zero.1 h3 x hx
    unfold hgE at this
    split at this
    · assumption
    · cases this
  · have := hp i hi
    unfold pinE at this
    split at this
    · cases this
    split at this
    · cases this
    split at this
    · cases this
    split at this
    · cases this
    unfold lenE at this
    split at this
    · rename_i a b c d e
      exact ⟨Decidable.not_not.1 c, by omega⟩
    · cases this
  · have := hp i hi
    unfold pinE at this
    split at this
    · cases this
    split at this
    · cases this
    split at this
    · cases this
    split at this
    · cases this
    · rename_i hc
      have h8 := any_false_at (by simpa using hc) hj (by omega)
      unfold atP at h8
      simpa using h8
  · have := fst_zero.1 h7 s hs
    unfold stE at this
    split at this
    · cases this
    split at this
    · cases this
    split at this
    · cases this
    · rename_i a b c
      exact ⟨by omega, by omega, b⟩
section
variable {m : Mod} {k : Nat}
theorem range_at {n j : Nat} (h : j < n) : (List.range n).getD j default = j := by
  rw [List.getD_eq_getElem?_getD, List.getElem?_range h]; rfl
theorem fst_hs (h : ∀ j, j < m.hs.length → hgE (m.hs.getD j default) = 0) : (K.fst hgE m.hs).2 = 0 := by rw [K.fst_none h]
theorem fst_ps {W D : Int} {ps : List PinT} (h : ∀ j, j < ps.length → pinE W D ps j = 0) : (K.fst (pinE W D ps) (List.range ps.length)).2 = 0 := by
  rw [K.fst_none (fun j hj => by rw [List.length_range] at hj; rw [range_at hj]; exact h j hj)]
theorem chk_h (h1 : (1 ≤ m.W ∧ m.W ≤ 8) ∧ (1 ≤ m.D ∧ m.D ≤ 8)) (h2 : (m.hs.length : Int) = m.W * m.D) (hk : k < m.hs.length) (hall : ∀ j, j < k → hgE (m.hs.getD j default) = 0) (hne : ¬ (0 ≤ m.hs.getD k default ∧ m.hs.getD k default ≤ 500)) : chk m = (1, (k : Int), 7) := by
  have e : hgE (m.hs.getD k default) = 7 := by unfold hgE; rw [if_neg hne]
  have f := K.fst_found hk hall (show hgE (m.hs.getD k default) ≠ 0 by omega)
  rw [e] at f
  rw [chk_3 h1 h2 (by rw [f]; simp), f]
theorem hg_0 {h : Int} (hh : 0 ≤ h ∧ h ≤ 500) : hgE h = 0 := by unfold hgE; rw [if_pos hh]
theorem chk_p (h1 : (1 ≤ m.W ∧ m.W ≤ 8) ∧ (1 ≤ m.D ∧ m.D ≤ 8)) (h2 : (m.hs.length : Int) = m.W * m.D) (h3 : (K.fst hgE m.hs).2 = 0) (h4 : ¬ m.ps.length > 6) (hk : k < m.ps.length) (hall : ∀ j, j < k → pinE m.W m.D m.ps j = 0) (hne : pinE m.W m.D m.ps k ≠ 0) : chk m = (2, (k : Int), pinE m.W m.D m.ps k) := by
  have hk' : k < (List.range m.ps.length).length := by rw [List.length_range]; exact hk
  have f := K.fst_found (q := pinE m.W m.D m.ps) hk' (fun j hj => by rw [range_at (by omega)]; exact hall j hj) (by rw [range_at hk]; exact hne)
  rw [range_at hk] at f
  rw [chk_5 h1 h2 h3 h4 (by rw [f]; exact hne), f]
theorem chk_s (h1 : (1 ≤ m.W ∧ m.W ≤ 8) ∧ (1 ≤ m.D ∧ m.D ≤ 8)) (h2 : (m.hs.length : Int) = m.W * m.D) (h3 : (K.fst hgE m.hs).2 = 0) (h4 : ¬ m.ps.length > 6) (h5 : (K.fst (pinE m.W m.D m.ps) (List.range m.ps.length)).2 = 0) (h6 : ¬ m.ss.length > 5) (hk : k < m.ss.length) (hall : ∀ j, j < k → stE m.W m.D (m.ss.getD j default) = 0) (hne : stE m.W m.D (m.ss.getD k default) ≠ 0) : chk m = (3, (k : Int), stE m.W m.D (m.ss.getD k default)) := by
  have f := K.fst_found hk hall hne
  rw [chk_7 h1 h2 h3 h4 h5 h6 (by rw [f]; exact hne), f]
theorem wd_bd {W D : Int} (h : (1 ≤ W ∧ W ≤ 8) ∧ (1 ≤ D ∧ D ≤ 8)) : 1 ≤ W * D ∧ W * D ≤ 64 := by
  have h1 : 1 * 1 ≤ W * D := Int.mul_le_mul h.1.1 h.2.1 (by omega) (by omega)
  have h2 : W * D ≤ 8 * 8 := Int.mul_le_mul h.1.2 h.2.2 (by omega) (by omega)
  omega
end
/-- The heights' sign: tops, fields between, what hides. -/
def gcdS (a b : Int) : Int := (Int.gcd a b : Nat)
/-- The pin at a field. -/
def pinAt (m : Mod) (f : Int) : Option Nat := (List.range m.ps.length).find? fun i => decide ((m.ps.getD i default).y * m.W + (m.ps.getD i default).x = f)
/-- The top of a field. -/
def topS (m : Mod) (l : List Int) (f : Int) : Int := m.hs.getD f.toNat default + match pinAt m f with | some i => l.getD i default | none => 0
/-- The fields between a place and a pin: each with how many steps it is away, of how many. -/
def stepAt (m : Mod) (x y px py g n : Int) : Option (Int × Int × Int) :=
  if onF m.W m.D (x + (px - x) / g * n) (y + (py - y) / g * n) then some ((y + (py - y) / g * n) * m.W + (x + (px - x) / g * n), n, g) else none
def stepsS (m : Mod) (x y : Int) (i : Nat) : List (Int × Int × Int) :=
  (List.range ((gcdS ((m.ps.getD i default).x - x) ((m.ps.getD i default).y - y)).toNat - 1)).filterMap fun (k : Nat) =>
    stepAt m x y (m.ps.getD i default).x (m.ps.getD i default).y (gcdS ((m.ps.getD i default).x - x) ((m.ps.getD i default).y - y)) ((k : Int) + 1)
def headS (m : Mod) (l : List Int) (i : Nat) : Int := m.hs.getD ((m.ps.getD i default).y * m.W + (m.ps.getD i default).x).toNat default + l.getD i default
def hideB (m : Mod) (l : List Int) (eye : Int) (i : Nat) (s : Int × Int × Int) : Bool := decide (topS m l s.1 * s.2.2 ≥ eye * (s.2.2 - s.2.1) + headS m l i * s.2.1)
/-- The fields that hide a pin. -/
def hidesS (m : Mod) (l : List Int) (x y eye : Int) (i : Nat) : List Int := ((stepsS m x y i).filter (hideB m l eye i)).map (·.1)
def ownS (m : Mod) : List Int := m.ps.map (·.len)
/-- The pins that are seen from a place. -/
def seesS (m : Mod) (l : List Int) (x y eye : Int) : List Nat := (List.range m.ps.length).filter fun i => (hidesS m l x y eye i).isEmpty
theorem hg_le {h : Int} : hgE h = 0 ∨ hgE h = 7 := by unfold hgE; split <;> simp
theorem hg_idx {hs : List Int} (h : K.idx (fun h => decide (hgE h ≠ 0)) hs ≥ 0) : K.fst hgE hs = (K.idx (fun h => decide (hgE h ≠ 0)) hs, 7) := by
  unfold K.idx K.fst at *
  have e : (fun x => hgE x != 0) = (fun h => decide (hgE h ≠ 0)) := by funext x; by_cases hx : hgE x = 0 <;> simp [hx]
  rw [e]
  cases hf : hs.findIdx? (fun h => decide (hgE h ≠ 0)) with
  | none => rw [hf] at h; simp at h
  | some i =>
    obtain ⟨hi, h1, _⟩ := List.findIdx?_eq_some_iff_getElem.1 hf
    simp only [List.getElem?_eq_getElem hi]
    have h2 : hgE hs[i] ≠ 0 := by simpa using h1
    rw [hg_le.resolve_left h2]
theorem hg_idx0 {hs : List Int} (h : ¬ K.idx (fun h => decide (hgE h ≠ 0)) hs ≥ 0) : (K.fst hgE hs).2 = 0 := by
  unfold K.idx at h
  unfold K.fst
  have e : (fun x => hgE x != 0) = (fun h => decide (hgE h ≠ 0)) := by funext x; by_cases hx : hgE x = 0 <;> simp [hx]
  rw [e]
  cases hf : hs.findIdx? (fun h => decide (hgE h ≠ 0)) with
  | none => rfl
  | some i => rw [hf] at h; simp at h
end Go.Proofs.YthkgnhcknkjgdaaDoor

/-
  Plain lemmas on lists.
  No conditions but those in the theorems.
-/
namespace Go.Proofs.YthkgnhcknkjgdaaDoor
open Go
/-- The error of spans within limits. -/
def spreadE (low high : Int) (xs : List (Int × Int)) : Int :=
  if xs.any (fun s => decide (¬ ((low ≤ s.1 ∧ s.1 ≤ high) ∧ (low ≤ s.2 ∧ s.2 ≤ high)))) then 7 else if xs.any (fun s => decide (s.1 > s.2)) then 2 else 0
theorem any_take {E : Type} [Inhabited E] {p : E → Bool} {xs : List E} {k : Nat} (h : k < xs.length) : (xs.take (k + 1)).any p = ((xs.take k).any p || p (xs.getD k default)) := by
  rw [List.take_add_one, List.getElem?_eq_getElem h, List.any_append]
  simp [List.getD_eq_getElem?_getD, h]
theorem any_f {E : Type} [Inhabited E] {p : E → Bool} {xs : List E} (h : ∀ j, j < xs.length → p (xs.getD j default) = false) : xs.any p = false := by
  rw [List.any_eq_false]
  intro x hx
  obtain ⟨j, hj, rfl⟩ := List.getElem_of_mem hx
  have := h j hj
  rw [List.getD_eq_getElem?_getD, List.getElem?_eq_getElem hj] at this
  simpa using this
theorem any_t {E : Type} [Inhabited E] {p : E → Bool} {xs : List E} {j : Nat} (hj : j < xs.length) (h : p (xs.getD j default) = true) : xs.any p = true := List.any_eq_true.2 ⟨_, K.gt_mem hj, h⟩
theorem mem_of_none {E : Type} [Inhabited E] {xs : List E} {n : E} (h : ∀ j, j < xs.length → xs.getD j default ≠ n) : n ∉ xs := fun hm => by
  obtain ⟨j, hj, rfl⟩ := List.getElem_of_mem hm
  exact h j hj (by rw [List.getD_eq_getElem?_getD, List.getElem?_eq_getElem hj]; rfl)
/-- Lists that grow by one. -/
theorem take_succ_map {E F : Type} [Inhabited E] (f : E → F) {xs : List E} {k : Nat} (h : k < xs.length) : (xs.take (k + 1)).map f = (xs.take k).map f ++ [f (xs.getD k default)] := by
  rw [List.take_add_one, List.getElem?_eq_getElem h, List.map_append]
  simp [List.getD_eq_getElem?_getD, h]
theorem take_all {E : Type} {xs : List E} {k : Nat} (h : xs.length ≤ k) : xs.take k = xs := List.take_of_length_le h
theorem fold_take {E : Type} [Inhabited E] {f : E → Int} {xs : List E} {k : Nat} (h : k < xs.length) : ((xs.take (k + 1)).map f).foldl max 0 = max (((xs.take k).map f).foldl max 0) (f (xs.getD k default)) := by
  rw [take_succ_map f h, List.foldl_append]; rfl
theorem foldI_take {xs : List Int} {k : Nat} (h : k < xs.length) : (xs.take (k + 1)).foldl max 0 = max ((xs.take k).foldl max 0) (xs.getD k default) := by
  have := take_succ_map id h
  simp only [List.map_id_fun, id_eq] at this
  rw [this, List.foldl_append]; rfl
/-- The numbers below n that p chooses. -/
def selN (p : Nat → Bool) (n : Nat) : List Int := ((List.range n).filter p).map fun (i : Nat) => (i : Int)
theorem selN_succ {p : Nat → Bool} {n : Nat} : selN p (n + 1) = selN p n ++ (if p n then [(n : Int)] else []) := by
  unfold selN
  rw [List.range_succ, List.filter_append, List.map_append]
  split <;> simp_all
theorem selN_len {p : Nat → Bool} {n : Nat} : (selN p n).length ≤ n := by
  unfold selN; rw [List.length_map]
  exact Nat.le_trans (List.length_filter_le _ _) (by simp)
theorem mem_sel {p : Nat → Bool} {n : Nat} {x : Int} : x ∈ selN p n ↔ ∃ i : Nat, i < n ∧ p i = true ∧ x = (i : Int) := by
  unfold selN
  simp only [List.mem_map, List.mem_filter, List.mem_range]
  constructor
  · rintro ⟨i, ⟨h1, h2⟩, rfl⟩; exact ⟨i, h1, h2, rfl⟩
  · rintro ⟨i, h1, h2, rfl⟩; exact ⟨i, ⟨h1, h2⟩, rfl⟩
end Go.Proofs.YthkgnhcknkjgdaaDoor

/-
  A model that is looked at: its cells.
  No conditions but those in the theorems.
-/
namespace Go.Proofs.YthkgnhcknkjgdaaDoor
open Go
theorem fld_bd {W D x y : Int} (hW : 1 ≤ W ∧ W ≤ 8) (hD : 1 ≤ D ∧ D ≤ 8) (h : onF W D x y) : 0 ≤ y * W + x ∧ y * W + x < W * D ∧ y * W + x ≤ 63 ∧ 0 ≤ y * W ∧ y * W ≤ 56 := by
  have hw : W = 1 ∨ W = 2 ∨ W = 3 ∨ W = 4 ∨ W = 5 ∨ W = 6 ∨ W = 7 ∨ W = 8 := by omega
  obtain ⟨h1, h2⟩ := h
  rcases hw with h | h | h | h | h | h | h | h <;> subst h <;> omega
theorem fld_inj {W D x y x' y' : Int} (hW : 1 ≤ W ∧ W ≤ 8) (h : onF W D x y) (h' : onF W D x' y') (e : y * W + x = y' * W + x') : x = x' ∧ y = y' := by
  have hw : W = 1 ∨ W = 2 ∨ W = 3 ∨ W = 4 ∨ W = 5 ∨ W = 6 ∨ W = 7 ∨ W = 8 := by omega
  obtain ⟨h1, h2⟩ := h
  obtain ⟨h3, h4⟩ := h'
  rcases hw with h | h | h | h | h | h | h | h <;> subst h <;> omega
/-- The field of a pin. -/
def fldS (m : Mod) (i : Nat) : Int := (m.ps.getD i default).y * m.W + (m.ps.getD i default).x
theorem Good.fld {m : Mod} (g : Good m) {i : Nat} (hi : i < m.ps.length) : 0 ≤ fldS m i ∧ fldS m i < m.W * m.D ∧ fldS m i ≤ 63 ∧ 0 ≤ (m.ps.getD i default).y * m.W ∧ (m.ps.getD i default).y * m.W ≤ 56 := fld_bd g.w g.d (g.p i hi).1
theorem Good.fldU {m : Mod} (g : Good m) {i j : Nat} (hi : i < m.ps.length) (hj : j < m.ps.length) (e : fldS m i = fldS m j) : i = j := by
  have h := fld_inj g.w (g.p i hi).1 (g.p j hj).1 e
  rcases Nat.lt_trichotomy i j with h1 | h1 | h1
  · exact absurd h (g.u j hj i h1)
  · exact h1
  · exact absurd ⟨h.1.symm, h.2.symm⟩ (g.u i hi j h1)
/-- The pin at a field, of the first k. -/
def pinAtK (m : Mod) (k : Nat) (f : Int) : Option Nat := (List.range k).find? fun i => decide (fldS m i = f)
theorem pinAt_eq {m : Mod} {f : Int} : pinAt m f = pinAtK m m.ps.length f := rfl
theorem pinAtK_some {m : Mod} {k i : Nat} {f : Int} (h : pinAtK m k f = some i) : i < k ∧ fldS m i = f := by
  have h1 := List.mem_of_find?_eq_some h
  have h2 := List.find?_some h
  exact ⟨List.mem_range.1 h1, of_decide_eq_true h2⟩
theorem pinAtK_none {m : Mod} {k : Nat} {f : Int} : pinAtK m k f = none ↔ ∀ i, i < k → fldS m i ≠ f := by
  unfold pinAtK
  rw [List.find?_eq_none]
  constructor
  · intro h i hi e; exact h i (List.mem_range.2 hi) (decide_eq_true e)
  · intro h i hi e; exact h i (List.mem_range.1 hi) (of_decide_eq_true e)
theorem pinAtK_succ {m : Mod} {k : Nat} {f : Int} : pinAtK m (k + 1) f = (pinAtK m k f).or (if fldS m k = f then some k else none) := by
  unfold pinAtK
  rw [List.range_succ, List.find?_append]
  congr 1
  by_cases h : fldS m k = f <;> simp [h]
def pinV (o : Option Nat) : Int := match o with | some i => (i : Int) | none => -1
theorem topS_eq {m : Mod} {l : List Int} {f : Int} : topS m l f = m.hs.getD f.toNat default + match pinAt m f with | some i => l.getD i default | none => 0 := rfl
/-! The cells -/
abbrev iI (x : Int) : Value := .int .i64 x
def ln (l : List Int) : List Value := [iI (l.getD 0 default), iI (l.getD 1 default), iI (l.getD 2 default), iI (l.getD 3 default), iI (l.getD 4 default), iI (l.getD 5 default)]
theorem ln_at {l : List Int} {i : Nat} (h : i < 6) : (ln l)[i]? = some (iI (l.getD i default)) := by
  have : i = 0 ∨ i = 1 ∨ i = 2 ∨ i = 3 ∨ i = 4 ∨ i = 5 := by omega
  rcases this with h | h | h | h | h | h <;> subst h <;> rfl
theorem ln_nth {l : List Int} {i : Nat} (h : i < 6) : K.nth (ln l) i = iI (l.getD i default) := by
  have : i = 0 ∨ i = 1 ∨ i = 2 ∨ i = 3 ∨ i = 4 ∨ i = 5 := by omega
  rcases this with h | h | h | h | h | h <;> subst h <;> rfl
theorem ln_set {l : List Int} {i : Nat} {v : Int} (h : i < 6) (hl : l.length = 6) : K.setn (ln l) i (iI v) = ln (l.set i v) := by
  have h0 : ∀ j, j < 6 → (l.set i v).getD j default = if i = j then v else l.getD j default := fun j hj => by
    rw [List.getD_eq_getElem?_getD, List.getElem?_set]
    split
    · rename_i e; subst e; rw [if_pos (by omega)]; rfl
    · rw [← List.getD_eq_getElem?_getD]
  have : i = 0 ∨ i = 1 ∨ i = 2 ∨ i = 3 ∨ i = 4 ∨ i = 5 := by omega
  unfold ln
  rw [h0 0 (by omega), h0 1 (by omega), h0 2 (by omega), h0 3 (by omega), h0 4 (by omega), h0 5 (by omega)]
  rcases this with h | h | h | h | h | h <;> subst h <;> rfl
def tp (m : Mod) : List Int := (List.range 64).map fun i => m.hs.getD i default
def pnK (m : Mod) (k : Nat) : List Int := (List.range 64).map fun (i : Nat) => pinV (pinAtK m k (i : Int))
def owK (m : Mod) (k : Nat) : List Int := (List.range 6).map fun i => if i < k then (m.ps.getD i default).len else 0
def mdG (c5 : List Value) (o t p : List Int) : List Value := c5 ++ (o ++ (t ++ p)).map iI
/-- The cells of a model that is looked at. -/
def mdl (m : Mod) (A B C : Option Addr) (c d e : Nat) : List Value := iI m.W :: iI m.D :: .slice A m.hs.length c :: .slice B m.ps.length d :: .slice C m.ss.length e :: (ln (ownS m) ++ (tp m ++ pnK m m.ps.length).map iI)
section
variable {m : Mod} {A B C : Option Addr} {c d e : Nat}
theorem tp_len : (tp m).length = 64 := by simp [tp]
theorem pn_len {k : Nat} : (pnK m k).length = 64 := by simp [pnK]
theorem ow_len {k : Nat} : (owK m k).length = 6 := by simp [owK]
theorem own_at {i : Nat} (h : i < m.ps.length) : (ownS m).getD i default = (m.ps.getD i default).len := by
  simp [ownS, List.getD_eq_getElem?_getD, h]
theorem own_out {i : Nat} (h : ¬ i < m.ps.length) : (ownS m).getD i default = 0 := by
  simp only [ownS, List.getD_eq_getElem?_getD, List.getElem?_map]
  rw [List.getElem?_eq_none (by omega)]; rfl
theorem own_len : (ownS m).length = m.ps.length := by simp [ownS]
theorem mdl_top {f : Nat} (hf : f < 64) : (mdl m A B C c d e)[11 + f]? = some (iI (m.hs.getD f default)) := by
  rw [show 11 + f = (6 + f) + 5 by omega]
  show (ln (ownS m) ++ (tp m ++ pnK m m.ps.length).map iI)[6 + f]? = _
  rw [List.getElem?_append_right (by simp [ln])]
  have e1 : 6 + f - (ln (ownS m)).length = f := by simp [ln]
  rw [e1, List.map_append, List.getElem?_append_left (by simp [tp_len]; exact hf)]
  simp [tp, hf]
theorem mdl_pin {f : Nat} (hf : f < 64) : (mdl m A B C c d e)[75 + f]? = some (iI (pinV (pinAt m (f : Int)))) := by
  rw [show 75 + f = (70 + f) + 5 by omega]
  show (ln (ownS m) ++ (tp m ++ pnK m m.ps.length).map iI)[70 + f]? = _
  rw [List.getElem?_append_right (by simp [ln]; omega)]
  have e1 : 70 + f - (ln (ownS m)).length = 64 + f := by simp [ln]; omega
  rw [e1, List.map_append, List.getElem?_append_right (by simp [tp_len])]
  simp [tp_len, pnK, hf, pinAt_eq]
theorem mdG_len {c5 : List Value} {o t p : List Int} : (mdG c5 o t p).length = c5.length + (o.length + (t.length + p.length)) := by simp [mdG]
theorem mdG_pin {c5 : List Value} {o t p : List Int} {f : Nat} {v : Int} (h5 : c5.length = 5) (ho : o.length = 6) (ht : t.length = 64) : K.setn (mdG c5 o t p) (75 + f) (iI v) = mdG c5 o t (p.set f v) := by
  rw [K.setn_eq, mdG, mdG, List.set_append_right _ _ (by omega)]
  congr 1
  rw [List.map_append, List.map_append, List.set_append_right _ _ (by simp; omega), List.set_append_right _ _ (by simp; omega)]
  simp only [List.length_map]
  have e1 : 75 + f - c5.length - o.length - t.length = f := by omega
  rw [e1, List.map_append, List.map_append, List.map_set]
theorem mdG_own {c5 : List Value} {o t p : List Int} {f : Nat} {v : Int} (h5 : c5.length = 5) (ho : f < o.length) : K.setn (mdG c5 o t p) (5 + f) (iI v) = mdG c5 (o.set f v) t p := by
  rw [K.setn_eq, mdG, mdG, List.set_append_right _ _ (by omega)]
  congr 1
  have e1 : 5 + f - c5.length = f := by omega
  rw [e1]
  simp only [List.map_append]
  rw [List.set_append_left _ _ (by simpa using ho)]
  simp only [List.map_set]
theorem mdG_copy {c5 : List Value} {o t p hs : List Int} (h5 : c5.length = 5) (ho : o.length = 6) (ht : hs.length ≤ t.length) : (mdG c5 o t p).take 11 ++ hs.flatMap K.eI ++ (mdG c5 o t p).drop (11 + hs.length) = mdG c5 o (hs ++ t.drop hs.length) p := by
  have e0 : hs.flatMap K.eI = hs.map iI := by induction hs with
    | nil => rfl
    | cons x xs ih => rw [List.flatMap_cons, ih (by simp at ht; omega)]; rfl
  have e1 : (mdG c5 o t p).take 11 = c5 ++ o.map iI := by
    rw [mdG, List.take_append, List.take_of_length_le (by omega), h5, List.map_append, List.take_append, List.take_of_length_le (by simp [ho])]
    simp [ho]
  have e2 : (mdG c5 o t p).drop (11 + hs.length) = (t.drop hs.length).map iI ++ p.map iI := by
    rw [mdG, List.drop_append, List.drop_of_length_le (by omega), List.nil_append, List.map_append, List.drop_append, List.drop_of_length_le (by simp; omega), List.nil_append, List.map_append, List.drop_append]
    have e3 : 11 + hs.length - c5.length - (o.map iI).length = hs.length := by simp; omega
    rw [e3]
    have e4 : hs.length - (t.map iI).length = 0 := by simp; omega
    rw [e4, List.drop_zero, List.map_drop]
  rw [e0, e1, e2, mdG]
  simp
theorem cop_tp (h : m.hs.length ≤ 64) : m.hs ++ (List.replicate 64 (0 : Int)).drop m.hs.length = tp m := by
  apply List.ext_getElem?
  intro i
  simp only [tp, List.getElem?_append, List.getElem?_map, List.drop_replicate, List.getElem?_replicate]
  rcases Nat.lt_or_ge i 64 with h1 | h1
  · rw [List.getElem?_range h1]
    split
    · rename_i h2; simp [List.getD_eq_getElem?_getD, h2]
    · rename_i h2
      rw [if_pos (by omega)]
      simp [List.getD_eq_getElem?_getD, List.getElem?_eq_none (Nat.le_of_not_lt h2)]
  · rw [if_neg (by omega), if_neg (by omega), List.getElem?_eq_none (by simp; omega)]; rfl
def negK (k : Nat) : List Int := (List.range 64).map fun i => if i < k then -1 else 0
theorem neg_0 : negK 0 = List.replicate 64 0 := by decide
theorem neg_set {k : Nat} (h : k < 64) : (negK k).set k (-1) = negK (k + 1) := by
  apply List.ext_getElem?
  intro i
  simp only [negK, List.getElem?_set, List.getElem?_map, List.length_map, List.length_range]
  rcases Nat.lt_or_ge i 64 with h1 | h1
  · rw [List.getElem?_range h1]
    split
    · rename_i h2; subst h2; simp [h]
    · rename_i h2
      simp only [Option.map_some]
      by_cases h3 : i < k
      · rw [if_pos h3, if_pos (by omega)]
      · rw [if_neg h3, if_neg (by omega)]
  · rw [if_neg (by omega), List.getElem?_eq_none (by simp; omega)]; rfl
theorem neg_len {k : Nat} : (negK k).length = 64 := by simp [negK]
theorem neg_end {k : Nat} (h : 64 ≤ k) : negK k = pnK m 0 := by
  unfold negK pnK
  apply List.map_congr_left
  intro i hi
  rw [if_pos (by have := List.mem_range.1 hi; omega)]
  rfl
theorem pn_set {k : Nat} (g : Good m) (h : k < m.ps.length) : (pnK m k).set (fldS m k).toNat (k : Int) = pnK m (k + 1) := by
  have hb := g.fld h
  apply List.ext_getElem?
  intro i
  simp only [pnK, List.getElem?_set, List.getElem?_map, List.length_map, List.length_range]
  rcases Nat.lt_or_ge i 64 with h1 | h1
  · rw [List.getElem?_range h1]
    simp only [Option.map_some]
    split
    · rename_i h2
      rw [if_pos (by omega)]
      have e1 : fldS m k = (i : Int) := by omega
      have e2 : pinAtK m k (i : Int) = none := pinAtK_none.2 (fun j hj he => by
        have := g.fldU (by omega) h (he.trans e1.symm)
        omega)
      rw [pinAtK_succ, e2, if_pos e1]; rfl
    · rename_i h2
      rw [pinAtK_succ, if_neg (by omega), Option.or_none]
  · rw [if_neg (by omega), List.getElem?_eq_none (by simp; omega)]; rfl
theorem ow_0 : owK m 0 = List.replicate 6 0 := by
  unfold owK
  apply List.ext_getElem?
  intro i
  simp only [List.getElem?_map, List.getElem?_replicate]
  rcases Nat.lt_or_ge i 6 with h1 | h1
  · rw [List.getElem?_range h1, if_pos h1]; simp
  · rw [if_neg (by omega), List.getElem?_eq_none (by simp; omega)]; rfl
theorem ow_set {k : Nat} (h : k < 6) : (owK m k).set k (m.ps.getD k default).len = owK m (k + 1) := by
  apply List.ext_getElem?
  intro i
  simp only [owK, List.getElem?_set, List.getElem?_map, List.length_map, List.length_range]
  rcases Nat.lt_or_ge i 6 with h1 | h1
  · rw [List.getElem?_range h1]
    split
    · rename_i h2; subst h2; simp [h]
    · rename_i h2
      simp only [Option.map_some]
      by_cases h3 : i < k
      · rw [if_pos h3, if_pos (by omega)]
      · rw [if_neg h3, if_neg (by omega)]
  · rw [if_neg (by omega), List.getElem?_eq_none (by simp; omega)]; rfl
theorem ow_ln : (owK m m.ps.length).map iI = ln (ownS m) := by
  have h : ∀ i, (if i < m.ps.length then (m.ps.getD i default).len else 0) = (ownS m).getD i default := fun i => by
    split
    · rename_i h; rw [own_at h]
    · rename_i h; rw [own_out h]
  have e : owK m m.ps.length = (List.range 6).map fun i => (ownS m).getD i default := by
    unfold owK; exact List.map_congr_left (fun i _ => h i)
  rw [e]; rfl
theorem mdG_mdl : mdG [iI m.W, iI m.D, .slice A m.hs.length c, .slice B m.ps.length d, .slice C m.ss.length e] (owK m m.ps.length) (tp m) (pnK m m.ps.length) = mdl m A B C c d e := by
  unfold mdG mdl
  rw [List.map_append, ow_ln]
  rfl
end
theorem mdl_top' {m : Mod} {A B C : Option Addr} {c d e : Nat} {f : Int} (hf : 0 ≤ f ∧ f ≤ 63) : (mdl m A B C c d e)[0 + 11 + f.toNat * 1]? = some (iI (m.hs.getD f.toNat default)) := by
  rw [Nat.zero_add, Nat.mul_one]; exact mdl_top (by omega)
theorem mdl_pin' {m : Mod} {A B C : Option Addr} {c d e : Nat} {f : Int} (hf : 0 ≤ f ∧ f ≤ 63) : (mdl m A B C c d e)[0 + 75 + f.toNat * 1]? = some (iI (pinV (pinAt m f))) := by
  rw [Nat.zero_add, Nat.mul_one, mdl_pin (by omega), Int.toNat_of_nonneg hf.1]
theorem ln_at' {l : List Int} {i : Nat} (h : i < 6) : (ln l)[0 + ((i : Int)).toNat * 1]? = some (iI (l.getD i default)) := by
  rw [Nat.zero_add, Nat.mul_one, Int.toNat_natCast]; exact ln_at h
theorem pinV_some {m : Mod} {f : Int} (h : pinV (pinAt m f) ≠ -1) : ∃ i, pinAt m f = some i ∧ i < m.ps.length ∧ fldS m i = f := by
  cases e : pinAt m f with
  | none => rw [e] at h; exact absurd rfl h
  | some i => exact ⟨i, rfl, pinAtK_some (k := m.ps.length) e⟩
theorem pinV_none {m : Mod} {f : Int} (h : ¬ pinV (pinAt m f) ≠ -1) : pinAt m f = none := by
  cases e : pinAt m f with
  | none => rfl
  | some i =>
    rw [e] at h
    have : pinV (some i) = (i : Int) := rfl
    rw [this] at h
    omega
/-- Lengths within limits. -/
def LB (l : List Int) : Prop := ∀ i, 0 ≤ l.getD i default ∧ l.getD i default ≤ 300
theorem Good.lb {m : Mod} (g : Good m) : LB (ownS m) := fun i => by
  rcases Nat.lt_or_ge i m.ps.length with h | h
  · rw [own_at h]; have := g.p i h; omega
  · rw [own_out (by omega)]; omega
theorem Good.hb {m : Mod} (g : Good m) (i : Nat) : 0 ≤ m.hs.getD i default ∧ m.hs.getD i default ≤ 500 := by
  rcases Nat.lt_or_ge i m.hs.length with h | h
  · exact g.h _ (K.gt_mem h)
  · rw [List.getD_eq_getElem?_getD, List.getElem?_eq_none h]; exact ⟨by decide, by decide⟩
theorem top_bd {m : Mod} (g : Good m) {l : List Int} (hl : LB l) (f : Int) : 0 ≤ topS m l f ∧ topS m l f ≤ 800 := by
  rw [topS_eq]
  have h1 := g.hb f.toNat
  cases pinAt m f with
  | none => simp only; omega
  | some i => have := hl i; simp only; omega
theorem head_bd {m : Mod} (g : Good m) {l : List Int} (hl : LB l) (i : Nat) : 0 ≤ headS m l i ∧ headS m l i ≤ 800 := by
  unfold headS
  have h1 := g.hb ((m.ps.getD i default).y * m.W + (m.ps.getD i default).x).toNat
  have := hl i
  omega
/-! Steps -/
theorem gcd_nn (a b : Int) : 0 ≤ gcdS a b := by unfold gcdS; omega
theorem gcd_le {a b : Int} {n : Nat} (ha : a.natAbs ≤ n) (hb : b.natAbs ≤ n) : gcdS a b ≤ n := by
  unfold gcdS Int.gcd
  rcases Nat.eq_zero_or_pos a.natAbs with h | h
  · rw [h, Nat.gcd_zero_left]; omega
  · have := Nat.gcd_le_left b.natAbs h; omega
theorem gcd_tmod (a b : Int) : gcdS b (a.tmod b) = gcdS a b := by
  unfold gcdS Int.gcd
  rw [Int.natAbs_tmod]
  rw [Nat.gcd_comm b.natAbs (a.natAbs % b.natAbs), ← Nat.gcd_rec, Nat.gcd_comm]
theorem gcd_zero (a : Int) : gcdS a 0 = max a (-a) := by
  unfold gcdS Int.gcd
  simp
  omega
theorem gcd_abs (a b : Int) : gcdS (max a (-a)) (max b (-b)) = gcdS a b := by
  unfold gcdS Int.gcd
  have h1 : (max a (-a)).natAbs = a.natAbs := by omega
  have h2 : (max b (-b)).natAbs = b.natAbs := by omega
  rw [h1, h2]
theorem tmod_lt {a b : Int} (h : b ≠ 0) : (a.tmod b).natAbs < b.natAbs := by
  rw [Int.natAbs_tmod]; exact Nat.mod_lt _ (by omega)
theorem gcd_dvd_l (a b : Int) : gcdS a b ∣ a := Int.gcd_dvd_left a b
theorem gcd_dvd_r (a b : Int) : gcdS a b ∣ b := Int.gcd_dvd_right a b
theorem quo_exact {a b : Int} (h : b ∣ a) : a.tdiv b = a / b := Int.tdiv_eq_ediv_of_dvd h
/-- A part of the way. -/
theorem part_bd {a g n : Int} (hg : g ∣ a) (h1 : 1 ≤ n) (h2 : n < g) : min a 0 ≤ a / g * n ∧ a / g * n ≤ max a 0 := by
  obtain ⟨q, rfl⟩ := hg
  rw [Int.mul_ediv_cancel_left _ (by omega)]
  rcases Int.le_total 0 q with h | h
  · have e1 : 0 ≤ q * n := Int.mul_nonneg h (by omega)
    have e2 : q * n ≤ q * g := Int.mul_le_mul_of_nonneg_left (by omega) h
    rw [Int.mul_comm g q]; omega
  · have e1 : q * n ≤ 0 := Int.mul_nonpos_of_nonpos_of_nonneg h (by omega)
    have e2 : q * g ≤ q * n := by have := Int.mul_le_mul_of_nonneg_left (a := n) (b := g) (c := -q) (by omega) (by omega); rw [Int.neg_mul, Int.neg_mul] at this; omega
    rw [Int.mul_comm g q]; omega
end Go.Proofs.YthkgnhcknkjgdaaDoor

/-
  The fields between a place and a pin, one after the other; what hides; sets as numbers.
  No conditions but those in the theorems.
-/
namespace Go.Proofs.YthkgnhcknkjgdaaDoor
open Go
def gS (m : Mod) (x y : Int) (i : Nat) : Int := gcdS ((m.ps.getD i default).x - x) ((m.ps.getD i default).y - y)
def st1 (m : Mod) (x y : Int) (i k : Nat) : Option (Int × Int × Int) := stepAt m x y ((m.ps.getD i default).x) ((m.ps.getD i default).y) (gS m x y i) ((k : Int) + 1)
/-- The first k. -/
def stK (m : Mod) (x y : Int) (i k : Nat) : List (Int × Int × Int) := (List.range k).filterMap (st1 m x y i)
theorem stepsS_eq {m : Mod} {x y : Int} {i : Nat} : stepsS m x y i = stK m x y i ((gS m x y i).toNat - 1) := rfl
section
variable {m : Mod} {x y : Int} {i k : Nat}
theorem stK_none (h : st1 m x y i k = none) : stK m x y i (k + 1) = stK m x y i k := by
  unfold stK; rw [List.range_succ, List.filterMap_append]; simp [h]
theorem stK_some {s : Int × Int × Int} (h : st1 m x y i k = some s) : stK m x y i (k + 1) = stK m x y i k ++ [s] := by
  unfold stK; rw [List.range_succ, List.filterMap_append]; simp [h]
theorem stK_at {s : Int × Int × Int} (h : st1 m x y i k = some s) : ∀ {n : Nat}, k < n → (stK m x y i n)[(stK m x y i k).length]? = some s := by
  intro n
  induction n with
  | zero => intro h1; omega
  | succ n ih =>
    intro h1
    rcases Nat.lt_or_ge k n with h2 | h2
    · have h3 := ih h2
      have h4 : (stK m x y i k).length < (stK m x y i n).length := (List.getElem?_eq_some_iff.1 h3).1
      cases e : st1 m x y i n with
      | none => rw [stK_none e]; exact h3
      | some s' => rw [stK_some e, List.getElem?_append_left h4]; exact h3
    · have : k = n := by omega
      subst this
      rw [stK_some h]; simp
/-- Where one is. -/
abbrev atX (m : Mod) (x y : Int) (i k : Nat) : Int := x + ((m.ps.getD i default).x - x) / gS m x y i * ((k : Int) + 1)
abbrev atY (m : Mod) (x y : Int) (i k : Nat) : Int := y + ((m.ps.getD i default).y - y) / gS m x y i * ((k : Int) + 1)
theorem st1_some (h : onF m.W m.D (atX m x y i k) (atY m x y i k)) : st1 m x y i k = some (atY m x y i k * m.W + atX m x y i k, (k : Int) + 1, gS m x y i) := by
  unfold st1 stepAt; rw [if_pos h]
theorem st1_none (h : ¬ onF m.W m.D (atX m x y i k) (atY m x y i k)) : st1 m x y i k = none := by
  unfold st1 stepAt; rw [if_neg h]
theorem gS_x : gS m x y i ∣ (m.ps.getD i default).x - x := gcd_dvd_l _ _
theorem gS_y : gS m x y i ∣ (m.ps.getD i default).y - y := gcd_dvd_r _ _
end
/-- What is between a place within limits and a pin. -/
structure Way (m : Mod) (x y : Int) (i : Nat) : Prop where
  g : Good m
  i : i < m.ps.length
  x : -20 ≤ x ∧ x ≤ 20
  y : -20 ≤ y ∧ y ≤ 20
section
variable {m : Mod} {x y : Int} {i : Nat}
theorem Way.p (h : Way m x y i) : (0 ≤ (m.ps.getD i default).x ∧ (m.ps.getD i default).x ≤ 7) ∧ (0 ≤ (m.ps.getD i default).y ∧ (m.ps.getD i default).y ≤ 7) ∧ (m.W ≤ 8 ∧ m.D ≤ 8 ∧ m.ps.length ≤ 6) := by
  have h1 := (h.g.p i h.i).1
  have h2 := h.g.w
  have h3 := h.g.d
  have h4 := h.g.n
  have h5 := h1.1
  have h6 := h1.2
  refine ⟨?_, ?_, h2.2, h3.2, h4⟩ <;> omega
theorem Way.gb (h : Way m x y i) : 0 ≤ gS m x y i ∧ gS m x y i ≤ 27 := by
  have h1 := h.p
  have := h.x
  have := h.y
  exact ⟨gcd_nn _ _, gcd_le (n := 27) (by omega) (by omega)⟩
theorem Way.at (h : Way m x y i) {k : Nat} (hk : (k : Int) + 1 < gS m x y i) : (-20 ≤ ((m.ps.getD i default).x - x) / gS m x y i * ((k : Int) + 1) + x ∧ ((m.ps.getD i default).x - x) / gS m x y i * ((k : Int) + 1) + x ≤ 20) ∧ (-20 ≤ ((m.ps.getD i default).y - y) / gS m x y i * ((k : Int) + 1) + y ∧ ((m.ps.getD i default).y - y) / gS m x y i * ((k : Int) + 1) + y ≤ 20) := by
  have h1 := h.p
  have h2 := h.x
  have h3 := h.y
  have h4 := part_bd (gS_x (m := m) (x := x) (y := y) (i := i)) (n := (k : Int) + 1) (by omega) hk
  have h5 := part_bd (gS_y (m := m) (x := x) (y := y) (i := i)) (n := (k : Int) + 1) (by omega) hk
  omega
theorem way_quo {a g : Int} (h : g ∣ a) : a.tdiv g = a / g := Int.tdiv_eq_ediv_of_dvd h
theorem dv_bd {a g : Int} (h : g ∣ a) (hg : 0 < g) (ha : -40 ≤ a ∧ a ≤ 40) : -40 ≤ a / g ∧ a / g ≤ 40 := by
  obtain ⟨q, rfl⟩ := h
  rw [Int.mul_ediv_cancel_left _ (by omega)]
  rcases Int.le_total 0 q with h | h
  · have := Int.mul_le_mul_of_nonneg_right (a := 1) (b := g) (c := q) (by omega) h
    omega
  · have := Int.mul_le_mul_of_nonneg_right (a := 1) (b := g) (c := -q) (by omega) (by omega)
    simp only [Int.mul_neg, Int.one_mul] at this
    omega
end
/-- What hides, of the first k. -/
def hdK (m : Mod) (l : List Int) (eye x y : Int) (i k : Nat) : List Int := (((stepsS m x y i).take k).filter (hideB m l eye i)).map (·.1)
section
variable {m : Mod} {l : List Int} {eye x y : Int} {i k : Nat}
theorem hd_all : hdK m l eye x y i (stepsS m x y i).length = hidesS m l x y eye i := by unfold hdK hidesS; rw [List.take_length]
theorem hd_next {s : Int × Int × Int} (h : (stepsS m x y i)[k]? = some s) : hdK m l eye x y i (k + 1) = hdK m l eye x y i k ++ (if hideB m l eye i s = true then [s.1] else []) := by
  unfold hdK
  rw [List.take_add_one, h, List.filter_append, List.map_append]
  congr 1
  by_cases hb : hideB m l eye i s = true <;> simp [hb]
theorem hd_at {s : Int × Int × Int} (h : (stepsS m x y i)[k]? = some s) (hb : hideB m l eye i s = true) : (hidesS m l x y eye i)[(hdK m l eye x y i k).length]? = some s.1 := by
  have h1 : hidesS m l x y eye i = hdK m l eye x y i (k + 1) ++ (((stepsS m x y i).drop (k + 1)).filter (hideB m l eye i)).map (·.1) := by
    unfold hdK hidesS
    rw [← List.map_append, ← List.filter_append, List.take_append_drop]
  rw [h1, hd_next h, if_pos hb, List.append_assoc]
  simp
theorem steps_at {s : Int × Int × Int} (h : (stepsS m x y i)[k]? = some s) : ∃ j : Nat, (j : Int) + 1 < gS m x y i ∧ onF m.W m.D (atX m x y i j) (atY m x y i j) ∧ s = (atY m x y i j * m.W + atX m x y i j, (j : Int) + 1, gS m x y i) := by
  have h1 := List.mem_of_getElem? h
  rw [stepsS_eq] at h1
  obtain ⟨j, hj, hs⟩ := List.mem_filterMap.1 h1
  have hj' := List.mem_range.1 hj
  by_cases hF : onF m.W m.D (atX m x y i j) (atY m x y i j)
  · rw [st1_some hF] at hs
    exact ⟨j, by omega, hF, by injection hs with e; exact e.symm⟩
  · rw [st1_none hF] at hs; cases hs
theorem Way.step (h : Way m x y i) {s : Int × Int × Int} (hs : (stepsS m x y i)[k]? = some s) : (0 ≤ s.1 ∧ s.1 ≤ 63) ∧ 1 ≤ s.2.1 ∧ s.2.1 < s.2.2 ∧ s.2.2 ≤ 27 := by
  obtain ⟨j, h1, h2, rfl⟩ := steps_at hs
  have h3 := fld_bd h.g.w h.g.d h2
  have h4 := h.gb
  exact ⟨⟨h3.1, h3.2.2.1⟩, by simp only; omega, h1, h4.2⟩
end
theorem mul_bd {a b A C : Int} (ha : 0 ≤ a ∧ a ≤ A) (hb : 0 ≤ b ∧ b ≤ C) : 0 ≤ a * b ∧ a * b ≤ A * C := by
  refine ⟨Int.mul_nonneg ha.1 hb.1, ?_⟩
  exact Int.le_trans (Int.mul_le_mul_of_nonneg_right ha.2 hb.1) (Int.mul_le_mul_of_nonneg_left hb.2 (by omega))
theorem hide_bd {m : Mod} {l : List Int} {eye x y : Int} {i k : Nat} {s : Int × Int × Int} (h : Way m x y i) (hl : LB l) (he : 0 ≤ eye ∧ eye ≤ 3000) (hs : (stepsS m x y i)[k]? = some s) :
    (0 ≤ topS m l s.1 * s.2.2 ∧ topS m l s.1 * s.2.2 ≤ 21600) ∧ (0 ≤ eye * (s.2.2 - s.2.1) ∧ eye * (s.2.2 - s.2.1) ≤ 81000) ∧ (0 ≤ headS m l i * s.2.1 ∧ headS m l i * s.2.1 ≤ 21600) := by
  have h1 := h.step hs
  have h2 := mul_bd (C := 27) (top_bd h.g hl s.1) (b := s.2.2) (by omega)
  have h3 := mul_bd (C := 27) he (b := s.2.2 - s.2.1) (by omega)
  have h4 := mul_bd (C := 27) (head_bd h.g hl i) (b := s.2.1) (by omega)
  omega
/-! Sets as numbers -/
def setN (p : Nat → Bool) : Nat → Int
  | 0 => 0
  | n + 1 => setN p n + if p n then 2 ^ n else 0
theorem setN_bd {p : Nat → Bool} : ∀ {n : Nat}, n ≤ 6 → 0 ≤ setN p n ∧ setN p n < 2 ^ n
  | 0, _ => ⟨Int.le_refl _, by show (0 : Int) < 1; decide⟩
  | n + 1, h => by
    have h1 := setN_bd (p := p) (n := n) (by omega)
    have h2 : (2 : Int) ^ (n + 1) = 2 ^ n + 2 ^ n := by rw [Int.pow_succ]; omega
    unfold setN
    split <;> omega
theorem or_tab : ∀ n : Fin 6, ∀ a : Fin 32, (a.val : Int) < 2 ^ n.val → IntKind.i64.wrap ((BitVec.ofInt IntKind.i64.bits (a.val : Int) ||| BitVec.ofInt IntKind.i64.bits (IntKind.i64.wrap (1 * 2 ^ min n.val IntKind.i64.bits))).toNat : Int) = (a.val : Int) + 2 ^ n.val := by decide
theorem or_bit {a : Int} {n : Nat} (hn : n < 6) (h0 : 0 ≤ a) (h : a < 2 ^ n) : IntKind.i64.wrap ((BitVec.ofInt IntKind.i64.bits a ||| BitVec.ofInt IntKind.i64.bits (IntKind.i64.wrap (1 * 2 ^ min ((n : Int)).toNat IntKind.i64.bits))).toNat : Int) = a + 2 ^ n := by
  have h5 : a < 32 := by
    have : (2 : Int) ^ n ≤ 2 ^ 5 := by
      have : n = 0 ∨ n = 1 ∨ n = 2 ∨ n = 3 ∨ n = 4 ∨ n = 5 := by omega
      rcases this with h | h | h | h | h | h <;> subst h <;> decide
    omega
  obtain ⟨b, rfl⟩ := Int.eq_ofNat_of_zero_le h0
  exact or_tab ⟨n, hn⟩ ⟨b, by omega⟩ h
/-- Which pins are seen from a place. -/
def seesB (m : Mod) (l : List Int) (x y eye : Int) (i : Nat) : Bool := (hidesS m l x y eye i).isEmpty
theorem sees_eq {m : Mod} {l : List Int} {x y eye : Int} : seesS m l x y eye = (List.range m.ps.length).filter (seesB m l x y eye) := rfl
theorem setN_yes {p : Nat → Bool} {n : Nat} (h : p n = true) : setN p (n + 1) = setN p n + 2 ^ n := by rw [setN, if_pos h]
theorem setN_no {p : Nat → Bool} {n : Nat} (h : p n = false) : setN p (n + 1) = setN p n := by rw [setN, if_neg (by simp [h]), Int.add_zero]
end Go.Proofs.YthkgnhcknkjgdaaDoor

/-
  Sets as numbers: their bits, counted and listed.
  No conditions but those in the theorems.
-/
namespace Go.Proofs.YthkgnhcknkjgdaaDoor
open Go
def tabZ : List Int := [0,1,56,2,57,49,28,3,61,58,42,50,38,29,17,4,62,47,59,36,45,43,51,22,53,39,33,30,24,18,12,5,63,55,48,27,60,41,37,16,46,35,44,21,52,32,23,11,54,26,40,15,34,20,31,10,25,14,19,9,13,8,7,6]
def tab64 : List Value := tabZ.map fun n => .int .u8 n
def low1 (x : Int) : Int := IntKind.u64.wrap (BitVec.ofInt IntKind.u64.bits x &&& BitVec.ofInt IntKind.u64.bits (IntKind.u64.wrap (0 - x))).toNat
def idxZ (x : Int) : Int := (IntKind.u64.wrap (low1 x * 285870213051353865)).fdiv (2 ^ min ((58 : Int)).toNat IntKind.u64.bits)
def tzS (x : Int) : Int := tabZ.getD (idxZ x).toNat 0
def andS (x : Int) : Int := IntKind.i64.wrap (BitVec.ofInt IntKind.i64.bits x &&& BitVec.ofInt IntKind.i64.bits (x - 1)).toNat
def bitsL (s : Int) : List Int := selN (fun i => s.toNat.testBit i) 6
def idxW (y : Int) : Int := (IntKind.u64.wrap (y * 285870213051353865)).fdiv (2 ^ min ((58 : Int)).toNat IntKind.u64.bits)
theorem idxW_1 : idxW 1 = 0 := by decide
theorem idxW_2 : idxW 2 = 1 := by decide
theorem idxW_4 : idxW 4 = 3 := by decide
theorem idxW_8 : idxW 8 = 7 := by decide
theorem idxW_16 : idxW 16 = 15 := by decide
theorem idxW_32 : idxW 32 = 31 := by decide
theorem low_tab : ∀ x : Fin 64, x.val ≠ 0 → low1 (x.val : Int) = 1 ∨ low1 (x.val : Int) = 2 ∨ low1 (x.val : Int) = 4 ∨ low1 (x.val : Int) = 8 ∨ low1 (x.val : Int) = 16 ∨ low1 (x.val : Int) = 32 := by decide
theorem low_at {x : Int} (h : 1 ≤ x ∧ x ≤ 63) : low1 x = 1 ∨ low1 x = 2 ∨ low1 x = 4 ∨ low1 x = 8 ∨ low1 x = 16 ∨ low1 x = 32 := by
  obtain ⟨n, rfl⟩ := Int.eq_ofNat_of_zero_le (show 0 ≤ x by omega)
  exact low_tab ⟨n, by omega⟩ (by simp only; omega)
theorem idxZ_eq (x : Int) : idxZ x = idxW (low1 x) := rfl
theorem idx_at {x : Int} (h : 1 ≤ x ∧ x ≤ 63) : (0 ≤ idxZ x ∧ idxZ x < 64) ∧ tab64[0 + (idxZ x).toNat * 1]? = some (.int .u8 (tzS x)) ∧ (0 ≤ tzS x ∧ tzS x ≤ 5) := by
  unfold tzS
  rw [idxZ_eq]
  rcases low_at h with e | e | e | e | e | e <;> rw [e]
  · rw [idxW_1]; exact ⟨by decide, rfl, by decide⟩
  · rw [idxW_2]; exact ⟨by decide, rfl, by decide⟩
  · rw [idxW_4]; exact ⟨by decide, rfl, by decide⟩
  · rw [idxW_8]; exact ⟨by decide, rfl, by decide⟩
  · rw [idxW_16]; exact ⟨by decide, rfl, by decide⟩
  · rw [idxW_32]; exact ⟨by decide, rfl, by decide⟩
theorem tz_of (x : Int) : tzS x = tabZ.getD (idxW (low1 x)).toNat 0 := rfl
theorem and_tab : ∀ x : Fin 64, x.val ≠ 0 → (0 ≤ andS (x.val : Int) ∧ andS (x.val : Int) < (x.val : Int)) ∧
    ((low1 (x.val : Int) = 1 ∧ bitsL (x.val : Int) = 0 :: bitsL (andS (x.val : Int))) ∨ (low1 (x.val : Int) = 2 ∧ bitsL (x.val : Int) = 1 :: bitsL (andS (x.val : Int))) ∨ (low1 (x.val : Int) = 4 ∧ bitsL (x.val : Int) = 2 :: bitsL (andS (x.val : Int))) ∨
     (low1 (x.val : Int) = 8 ∧ bitsL (x.val : Int) = 3 :: bitsL (andS (x.val : Int))) ∨ (low1 (x.val : Int) = 16 ∧ bitsL (x.val : Int) = 4 :: bitsL (andS (x.val : Int))) ∨ (low1 (x.val : Int) = 32 ∧ bitsL (x.val : Int) = 5 :: bitsL (andS (x.val : Int)))) := by decide
theorem bits_at {x : Int} (h : 1 ≤ x ∧ x ≤ 63) : (0 ≤ andS x ∧ andS x < x) ∧ bitsL x = tzS x :: bitsL (andS x) := by
  obtain ⟨n, rfl⟩ := Int.eq_ofNat_of_zero_le (show 0 ≤ x by omega)
  obtain ⟨h1, h2⟩ := and_tab ⟨n, by omega⟩ (by simp only; omega)
  refine ⟨h1, ?_⟩
  rw [tz_of]
  rcases h2 with ⟨e, h3⟩ | ⟨e, h3⟩ | ⟨e, h3⟩ | ⟨e, h3⟩ | ⟨e, h3⟩ | ⟨e, h3⟩ <;> simp only at e h3 <;> rw [e]
  · rw [idxW_1]; exact h3
  · rw [idxW_2]; exact h3
  · rw [idxW_4]; exact h3
  · rw [idxW_8]; exact h3
  · rw [idxW_16]; exact h3
  · rw [idxW_32]; exact h3
theorem bits_0 : bitsL 0 = [] := by decide
theorem bits_len {x : Int} : (bitsL x).length ≤ 6 := selN_len
theorem setN_6 : ∀ b0 b1 b2 b3 b4 b5 : Bool, bitsL ((((((0 + if b0 then 2 ^ 0 else 0) + if b1 then 2 ^ 1 else 0) + if b2 then 2 ^ 2 else 0) + if b3 then 2 ^ 3 else 0) + if b4 then 2 ^ 4 else 0) + if b5 then 2 ^ 5 else 0) = ((((([] ++ if b0 then [((0 : Nat) : Int)] else []) ++ if b1 then [((1 : Nat) : Int)] else []) ++ if b2 then [((2 : Nat) : Int)] else []) ++ if b3 then [((3 : Nat) : Int)] else []) ++ if b4 then [((4 : Nat) : Int)] else []) ++ if b5 then [((5 : Nat) : Int)] else [] := by decide
/-- The numbers of a set, from the choice. -/
theorem setN_congr {p q : Nat → Bool} : ∀ {n : Nat}, (∀ i, i < n → p i = q i) → setN p n = setN q n
  | 0, _ => rfl
  | n + 1, h => by rw [setN, setN, setN_congr (fun i hi => h i (by omega)), h n (by omega)]
theorem selN_congr {p q : Nat → Bool} {n : Nat} (h : ∀ i, i < n → p i = q i) : selN p n = selN q n := by
  unfold selN
  congr 1
  exact List.filter_congr (fun i hi => h i (List.mem_range.1 hi))
theorem setN_cut {p : Nat → Bool} {n : Nat} : ∀ {k : Nat}, n ≤ k → setN (fun i => p i && decide (i < n)) k = setN p n
  | 0, h => by
    have : n = 0 := by omega
    subst this; rfl
  | k + 1, h => by
    rcases Nat.lt_or_ge n (k + 1) with h1 | h1
    · rw [setN, setN_cut (by omega), decide_eq_false (by omega), Bool.and_false, if_neg (by simp), Int.add_zero]
    · have : n = k + 1 := by omega
      subst this
      exact setN_congr (fun i hi => by rw [decide_eq_true hi, Bool.and_true])
theorem selN_cut {p : Nat → Bool} {n k : Nat} (h : n ≤ k) : selN (fun i => p i && decide (i < n)) k = selN p n := by
  induction k with
  | zero =>
    have : n = 0 := by omega
    subst this; rfl
  | succ k ih =>
    rcases Nat.lt_or_ge n (k + 1) with h1 | h1
    · rw [selN_succ, ih (by omega), decide_eq_false (by omega), Bool.and_false]; simp
    · have : n = k + 1 := by omega
      subst this
      exact selN_congr (fun i hi => by rw [decide_eq_true hi, Bool.and_true])
theorem bits_set6 (q : Nat → Bool) : bitsL (setN q 6) = selN q 6 := by
  have h := setN_6 (q 0) (q 1) (q 2) (q 3) (q 4) (q 5)
  have e : selN q 6 = ((((([] ++ if q 0 then [((0 : Nat) : Int)] else []) ++ if q 1 then [((1 : Nat) : Int)] else []) ++ if q 2 then [((2 : Nat) : Int)] else []) ++ if q 3 then [((3 : Nat) : Int)] else []) ++ if q 4 then [((4 : Nat) : Int)] else []) ++ if q 5 then [((5 : Nat) : Int)] else [] := by
    rw [selN_succ, selN_succ, selN_succ, selN_succ, selN_succ, selN_succ]; rfl
  rw [e, ← h]
  rfl
theorem bits_set {p : Nat → Bool} {n : Nat} (h : n ≤ 6) : bitsL (setN p n) = selN p n := by
  rw [← setN_cut (p := p) h, ← selN_cut (p := p) h, bits_set6]
theorem setN_63 {p : Nat → Bool} {n : Nat} (h : n ≤ 6) : 0 ≤ setN p n ∧ setN p n ≤ 63 := by
  have h1 := setN_bd (p := p) h
  have h2 : (2 : Int) ^ n ≤ 64 := by
    have : n = 0 ∨ n = 1 ∨ n = 2 ∨ n = 3 ∨ n = 4 ∨ n = 5 ∨ n = 6 := by omega
    rcases this with h | h | h | h | h | h | h <;> subst h <;> decide
  omega
end Go.Proofs.YthkgnhcknkjgdaaDoor

/-
  What functions of pin return, as plain functions.
  No conditions but those in the theorems.
-/
namespace Go.Proofs.YthkgnhcknkjgdaaDoor
open Go
def asE (m : Mod) (s p : Int) : Int := if ¬ ((0 ≤ s ∧ s ≤ (m.ss.length : Int) - 1) ∧ (0 ≤ p ∧ p ≤ (m.ps.length : Int) - 1)) then 4 else 0
/-- The error of a model, a stand and a pin. -/
def askE (m : Mod) (s p : Int) : Int := if (chk m).2.2 ≠ 0 then (chk m).2.2 else asE m s p
def hidE (m : Mod) (s eye p : Int) : Int := if askE m s p ≠ 0 then askE m s p else if ¬ (0 ≤ eye ∧ eye ≤ 2000) then 7 else 0
/-- What Hidden returns. -/
def hidL (m : Mod) (s eye p : Int) : List Int := if hidE m s eye p = 0 then hidesS m (ownS m) (m.ss.getD s.toNat default).x (m.ss.getD s.toNat default).y eye p.toNat else []
def seenE (m : Mod) (s : Int) : Int := if (chk m).2.2 ≠ 0 then (chk m).2.2 else if ¬ (0 ≤ s ∧ s ≤ (m.ss.length : Int) - 1) then 4 else 0
def seenL (m : Mod) (l : List Int) (s : Nat) (eye : Int) : List Int := selN (seesB m l (m.ss.getD s default).x (m.ss.getD s default).y eye) m.ps.length
theorem chk_e0 {m : Mod} (h : (chk m).2.2 = 0) : chk m = (0, 0, 0) := by
  obtain ⟨h1, h2, h3, h4, h5, h6, h7⟩ := chk_part.1 h
  exact chk_0 h1 h2 h3 h4 h5 h6 h7
theorem ask_0 {m : Mod} {s p : Int} (h : askE m s p = 0) : (chk m).2.2 = 0 ∧ (0 ≤ s ∧ s ≤ (m.ss.length : Int) - 1) ∧ (0 ≤ p ∧ p ≤ (m.ps.length : Int) - 1) := by
  unfold askE asE at h
  split at h
  · rename_i h1; exact absurd h h1
  · rename_i h1
    split at h
    · cases h
    · rename_i h2; exact ⟨Decidable.not_not.1 h1, (Decidable.not_not.1 h2).1, (Decidable.not_not.1 h2).2⟩
theorem Good.st {m : Mod} (g : Good m) {s : Nat} (h : s < m.ss.length) : ((-20 ≤ (m.ss.getD s default).x ∧ (m.ss.getD s default).x ≤ 20) ∧ (-20 ≤ (m.ss.getD s default).y ∧ (m.ss.getD s default).y ≤ 20)) ∧ (0 ≤ (m.ss.getD s default).lo ∧ (m.ss.getD s default).lo ≤ (m.ss.getD s default).hi ∧ (m.ss.getD s default).hi ≤ 2000) ∧ ¬ onF m.W m.D (m.ss.getD s default).x (m.ss.getD s default).y := g.s _ (K.gt_mem h)
theorem hides_len {m : Mod} {l : List Int} {x y eye : Int} {i : Nat} (h : Way m x y i) : (hidesS m l x y eye i).length ≤ 27 := by
  unfold hidesS
  rw [List.length_map]
  refine Nat.le_trans (List.length_filter_le _ _) ?_
  rw [stepsS_eq]
  unfold stK
  refine Nat.le_trans (List.length_filterMap_le _ _) ?_
  have := h.gb
  simp; omega
/-- What hides, of the first k parts of the way. -/
def hfK (m : Mod) (l : List Int) (eye x y : Int) (i k : Nat) : List Int := ((stK m x y i k).filter (hideB m l eye i)).map (·.1)
section
variable {m : Mod} {l : List Int} {eye x y : Int} {i k : Nat}
theorem hf_all : hfK m l eye x y i ((gS m x y i).toNat - 1) = hidesS m l x y eye i := by unfold hfK hidesS; rw [stepsS_eq]
theorem hf_none (h : ¬ onF m.W m.D (atX m x y i k) (atY m x y i k)) : hfK m l eye x y i (k + 1) = hfK m l eye x y i k := by unfold hfK; rw [stK_none (st1_none h)]
theorem hf_some (h : onF m.W m.D (atX m x y i k) (atY m x y i k)) : hfK m l eye x y i (k + 1) = hfK m l eye x y i k ++ (if topS m l (atY m x y i k * m.W + atX m x y i k) * gS m x y i ≥ eye * (gS m x y i - ((k : Int) + 1)) + headS m l i * ((k : Int) + 1) then [atY m x y i k * m.W + atX m x y i k] else []) := by
  unfold hfK
  rw [stK_some (st1_some h), List.filter_append, List.map_append]
  congr 1
  by_cases hb : topS m l (atY m x y i k * m.W + atX m x y i k) * gS m x y i ≥ eye * (gS m x y i - ((k : Int) + 1)) + headS m l i * ((k : Int) + 1)
  · rw [if_pos hb]; simp [hideB, hb]
  · rw [if_neg hb]; simp [hideB]; omega
theorem hf_len : (hfK m l eye x y i k).length ≤ k := by
  unfold hfK
  rw [List.length_map]
  refine Nat.le_trans (List.length_filter_le _ _) ?_
  unfold stK
  refine Nat.le_trans (List.length_filterMap_le _ _) ?_
  simp
theorem hid_0 {s eye p : Int} (h1 : askE m s p = 0) (h2 : 0 ≤ eye ∧ eye ≤ 2000) : hidE m s eye p = 0 := by unfold hidE; rw [if_neg (by omega), if_neg (by omega)]
theorem hid_7 {s eye p : Int} (h1 : askE m s p = 0) (h2 : ¬ (0 ≤ eye ∧ eye ≤ 2000)) : hidE m s eye p = 7 := by unfold hidE; rw [if_neg (by omega), if_pos h2]
theorem hid_a {s eye p : Int} (h1 : askE m s p ≠ 0) : hidE m s eye p = askE m s p := by unfold hidE; rw [if_pos h1]
theorem hidL_e {s eye p : Int} (h : hidE m s eye p ≠ 0) : hidL m s eye p = [] := by unfold hidL; rw [if_neg h]
theorem hidL_0 {s p : Nat} {eye : Int} (h : hidE m s eye p = 0) : hidL m s eye p = hidesS m (ownS m) (m.ss.getD s default).x (m.ss.getD s default).y eye p := by unfold hidL; rw [if_pos h]; rfl
end
theorem pinAt_own {m : Mod} (g : Good m) {i : Nat} (hi : i < m.ps.length) : pinAt m (fldS m i) = some i := by
  cases e : pinAt m (fldS m i) with
  | none => exact absurd rfl (pinAtK_none.1 e i hi)
  | some j =>
    obtain ⟨h1, h2⟩ := pinAtK_some (k := m.ps.length) e
    rw [g.fldU h1 hi h2]
theorem top_own {m : Mod} (g : Good m) {l : List Int} {i : Nat} (hi : i < m.ps.length) : topS m l ((m.ps.getD i default).y * m.W + (m.ps.getD i default).x) = headS m l i := by
  rw [topS_eq, show pinAt m ((m.ps.getD i default).y * m.W + (m.ps.getD i default).x) = some i from pinAt_own g hi]; rfl
end Go.Proofs.YthkgnhcknkjgdaaDoor
