/-
  Cuts, roads and lists of a case, as plain functions, with their bounds.
  No conditions: no program is in sight.
-/
import Derived.Test.YtafkbioeoklldaaS5
import Derived.Test.YtafkbioeoklldaaKi
set_option linter.unusedSimpArgs false
set_option linter.unusedVariables false
namespace Go.Proofs.Ytafkbioeoklldaa
open Go
/-- The case has no error. -/
structure Good (kind base most : Int) (hs : List Int) (rs : List (Int × Int)) : Prop where
  k : 1 ≤ kind ∧ kind ≤ 3
  b : 0 ≤ base ∧ base ≤ 9000
  m : 0 ≤ most ∧ most ≤ 100000
  n : 1 ≤ hs.length ∧ hs.length ≤ 8
  r : rs.length ≤ 8
  h : ∀ h ∈ hs, base ≤ h ∧ h ≤ 9000
  rd : ∀ r ∈ rs, 0 ≤ r.1 ∧ r.1 < hs.length ∧ 0 ≤ r.2 ∧ r.2 < hs.length ∧ r.1 ≠ r.2
theorem fst_zero {E : Type} {q : E → Int} {xs : List E} : (K.fst q xs).2 = 0 ↔ ∀ x ∈ xs, q x = 0 := by
  unfold K.fst
  cases h : xs.findIdx? (fun x => q x != 0) with
  | none =>
    have h' := List.findIdx?_eq_none_iff.1 h
    simp only [true_iff]
    intro x hx; simpa using h' x hx
  | some i =>
    obtain ⟨hi, hp, _⟩ := List.findIdx?_eq_some_iff_getElem.1 h
    have hp' : q xs[i] ≠ 0 := by simpa using hp
    simp only [List.getElem?_eq_getElem hi]
    exact ⟨fun h0 => absurd h0 hp', fun ha => absurd (ha _ (List.getElem_mem hi)) hp'⟩
theorem fst_eq0 {E : Type} {q : E → Int} {xs : List E} (h : ∀ x ∈ xs, q x = 0) : K.fst q xs = (0, 0) := by
  unfold K.fst
  have : xs.findIdx? (fun x => q x != 0) = none := List.findIdx?_eq_none_iff.2 (fun x hx => by simp [h x hx])
  rw [this]
section
variable {kind base most : Int} {hs : List Int} {rs : List (Int × Int)}
theorem hE_eq {h : Int} : hE base h = 0 ↔ base ≤ h ∧ h ≤ 9000 := by unfold hE; split <;> simp_all
theorem roadE_eq {n : Int} {r : Int × Int} : roadE n r = 0 ↔ 0 ≤ r.1 ∧ r.1 < n ∧ 0 ≤ r.2 ∧ r.2 < n ∧ r.1 ≠ r.2 := by
  unfold roadE
  split
  · split
    · constructor
      · intro h; omega
      · intro h; omega
    · constructor
      · intro _; omega
      · intro _; rfl
  · constructor
    · intro h; omega
    · intro h; omega
theorem chk_good (h : (chk kind base most hs rs).2.2 = 0) : Good kind base most hs rs := by
  unfold chk at h
  split at h
  · exact absurd h (by decide)
  split at h
  · exact absurd h (by decide)
  split at h
  · exact absurd h (by decide)
  split at h
  · rename_i h4; exact absurd h h4
  split at h
  · rename_i h5; exact absurd h h5
  rename_i h1 h2 h3 h4 h5
  have h4' := fst_zero.1 (Decidable.not_not.1 h4)
  have h5' := fst_zero.1 (Decidable.not_not.1 h5)
  exact ⟨by omega, by omega, by omega, by omega, by omega, fun x hx => hE_eq.1 (h4' x hx), fun x hx => roadE_eq.1 (h5' x hx)⟩
theorem Good.chk (g : Good kind base most hs rs) : chk kind base most hs rs = (0, 0, 0) := by
  have h1 := g.k; have h2 := g.b; have h3 := g.m; have h4 := g.n; have h5 := g.r
  refine chk_0 h1 ⟨h2, h3⟩ ⟨h4, h5⟩ (fst_zero.2 fun x hx => hE_eq.2 (g.h x hx)) (fst_zero.2 fun x hx => roadE_eq.2 (g.rd x hx))
theorem good_iff : (chk kind base most hs rs).2.2 = 0 ↔ Good kind base most hs rs := ⟨chk_good, fun g => by rw [g.chk]⟩
theorem Good.at (g : Good kind base most hs rs) {i : Nat} (h : i < hs.length) : base ≤ hs.getD i default ∧ hs.getD i default ≤ 9000 := g.h _ (K.gt_mem h)
theorem Good.road (g : Good kind base most hs rs) {i : Nat} (h : i < rs.length) : 0 ≤ (rs.getD i default).1 ∧ (rs.getD i default).1 < hs.length ∧ 0 ≤ (rs.getD i default).2 ∧ (rs.getD i default).2 < hs.length ∧ (rs.getD i default).1 ≠ (rs.getD i default).2 := g.rd _ (K.gt_mem h)
end
theorem scE_ok {u d : Int} (h : scE u d = 0) : 1 ≤ u ∧ u ≤ 30 ∧ 1 ≤ d ∧ d ≤ 30 ∧ cm u d = false := by
  unfold scE at h
  split at h
  · split at h
    · omega
    · rename_i h1 h2; exact ⟨h1.1, h1.2.1, h1.2.2.1, h1.2.2.2, by simpa using h2⟩
  · omega
/-- A scale's parts are within limits. -/
@[reducible] def Parts (u d : Int) : Prop := 1 ≤ u ∧ u ≤ 30 ∧ 1 ≤ d ∧ d ≤ 30
theorem scE_parts {u d : Int} (h : scE u d = 0) : Parts u d := by have := scE_ok h; exact ⟨this.1, this.2.1, this.2.2.1, this.2.2.2.1⟩
theorem mul_bd {a b A B : Int} (h0 : 0 ≤ a) (h1 : a ≤ A) (h2 : 0 ≤ b) (h3 : b ≤ B) : 0 ≤ a * b ∧ a * b ≤ A * B := ⟨Int.mul_nonneg h0 h2, Int.mul_le_mul h1 h3 h2 (by omega)⟩
theorem cutS_bd {kind h u d : Int} (h0 : 0 ≤ h) (h1 : h ≤ 9000) (hp : Parts u d) : 0 ≤ cutS kind h u d ∧ cutS kind h u d ≤ 270001 := by
  have hm := mul_bd h0 h1 (show 0 ≤ u by omega) (show u ≤ 30 by omega)
  unfold cutS
  generalize h * u = n at *
  have h2 : 0 ≤ n / d := Int.ediv_nonneg (by omega) (by omega)
  have h3 : n / d ≤ n := Int.ediv_le_self _ (by omega)
  split <;> omega
/-- The cut of a point's height. -/
@[reducible] def ct (kind base u d h : Int) : Int := cutS kind (h - base) u d
/-- All cuts. -/
def cuts (kind base u d : Int) (hs : List Int) : List Int := hs.map (ct kind base u d)
theorem cuts_len {kind base u d : Int} {hs : List Int} : (cuts kind base u d hs).length = hs.length := by simp [cuts]
theorem getD_map {α β : Type} [Inhabited α] [Inhabited β] (f : α → β) (xs : List α) {i : Nat} (h : i < xs.length) : (xs.map f).getD i default = f (xs.getD i default) := by
  simp [List.getD_eq_getElem?_getD, h]
theorem cuts_at {kind base u d : Int} {hs : List Int} {i : Nat} (h : i < hs.length) : (cuts kind base u d hs).getD i default = ct kind base u d (hs.getD i default) := getD_map _ _ h
/-- An array of eight numbers that begins so. -/
def a8 (xs : List Int) : List Value := (List.range 8).map fun i => .int .i64 (xs.getD i default)
theorem a8_len {xs : List Int} : (a8 xs).length = 8 := by simp [a8]
theorem a8_nil : a8 [] = [.int .i64 0, .int .i64 0, .int .i64 0, .int .i64 0, .int .i64 0, .int .i64 0, .int .i64 0, .int .i64 0] := rfl
theorem nth_a8 {xs : List Int} {i : Nat} (h : i < 8) : K.nth (a8 xs) i = .int .i64 (xs.getD i default) := by
  rw [K.nth_eq]
  simp [a8, List.getElem?_map, List.getElem?_range h]
theorem a8_flat {xs : List Int} (h : xs.length ≤ 8) : a8 xs = xs.flatMap K.eI ++ List.replicate (8 - xs.length) (.int .i64 0) := by
  have e1 : xs.flatMap K.eI = xs.map (Value.int .i64) := by
    induction xs with
    | nil => rfl
    | cons x xs ih => simp [List.flatMap_cons, ih (by simp at h; omega)]
  rw [e1]
  apply List.ext_getElem?
  intro i
  rw [List.getElem?_append]
  simp only [List.length_map, a8, List.getElem?_map, List.getElem?_replicate]
  rcases Nat.lt_or_ge i 8 with h8 | h8
  · rw [List.getElem?_range h8]
    rcases Nat.lt_or_ge i xs.length with h1 | h1
    · simp [h1, List.getD_eq_getElem?_getD]
    · have h2 : i - xs.length < 8 - xs.length := by omega
      simp [List.getD_eq_getElem?_getD, h2, Nat.not_lt.2 h1]
  · have h1 : ¬ i < xs.length := by omega
    have h2 : ¬ i - xs.length < 8 - xs.length := by omega
    rw [List.getElem?_eq_none (by simpa using h8)]
    simp [h1, h2]
theorem a8_set {xs : List Int} {v : Int} (h : xs.length < 8) : K.setn (a8 xs) xs.length (.int .i64 v) = a8 (xs ++ [v]) := by
  rw [K.setn_eq]
  apply List.ext_getElem?
  intro i
  rw [List.getElem?_set]
  simp only [a8, List.length_map, List.length_range, List.getElem?_map]
  rcases Nat.lt_or_ge i 8 with h8 | h8
  · rw [List.getElem?_range h8]
    split
    · rename_i h1; subst h1
      simp [h, List.getD_eq_getElem?_getD]
    · rename_i h1
      simp only [List.getD_eq_getElem?_getD, List.getElem?_append, Option.map_some]
      rcases Nat.lt_or_ge i xs.length with h2 | h2
      · simp [h2]
      · have h3 : ¬ i < xs.length := by omega
        have h4 : i - xs.length ≠ 0 := by omega
        simp [h3]
        rw [List.getElem?_eq_none (by simp; omega)]
        rfl
  · rw [List.getElem?_eq_none (by simpa using h8)]
    have h1 : ¬ xs.length = i := by omega
    simp [h1]
/-- Lists that grow by one. -/
theorem take_succ_map {E F : Type} [Inhabited E] (f : E → F) {xs : List E} {k : Nat} (h : k < xs.length) : (xs.take (k + 1)).map f = (xs.take k).map f ++ [f (xs.getD k default)] := by
  rw [List.take_add_one, List.getElem?_eq_getElem h, List.map_append]
  simp [List.getD_eq_getElem?_getD, h]
theorem take_all {E : Type} {xs : List E} {k : Nat} (h : xs.length ≤ k) : xs.take k = xs := List.take_of_length_le h
/-- Whether all cuts are within Most. -/
def fitB (most : Int) (xs : List Int) : Bool := xs.all fun x => decide (x ≤ most)
theorem fitB_snoc {most x : Int} {xs : List Int} : fitB most (xs ++ [x]) = (fitB most xs && decide (x ≤ most)) := by simp [fitB]
/-- What a road rises. -/
@[reducible] def riseS (xs : List Int) (r : Int × Int) : Int := xs.getD r.2.toNat default - xs.getD r.1.toNat default
/-- By how much a road is false. -/
def offS (u d rise by_ : Int) : Int := if rise = 0 then 0 else (max (1000 * (d * by_ - u * rise)) (-(1000 * (d * by_ - u * rise))) + u * max rise (-rise) - 1) / (u * max rise (-rise))
/-- The numbers below n that p chooses. -/
def selN (p : Nat → Bool) (n : Nat) : List Int := ((List.range n).filter p).map fun (i : Nat) => (i : Int)
theorem selN_succ {p : Nat → Bool} {n : Nat} : selN p (n + 1) = selN p n ++ (if p n then [(n : Int)] else []) := by
  unfold selN
  rw [List.range_succ, List.filter_append, List.map_append]
  split <;> simp_all
theorem selN_zero {p : Nat → Bool} : selN p 0 = [] := rfl
theorem selN_len {p : Nat → Bool} {n : Nat} : (selN p n).length ≤ n := by
  unfold selN; rw [List.length_map]
  exact Nat.le_trans (List.length_filter_le _ _) (by simp)
/-- A road is flat. -/
@[reducible] def flatP (hs cs : List Int) (r : Int × Int) : Bool := decide (riseS hs r ≠ 0) && decide (riseS cs r = 0)
/-- The roads that are flat. -/
def flats (hs cs : List Int) (rs : List (Int × Int)) : List Int := selN (fun i => flatP hs cs (rs.getD i default)) rs.length
/-- The roads' falseness. -/
def offs (u d : Int) (hs cs : List Int) (rs : List (Int × Int)) : List Int := rs.map fun r => offS u d (riseS hs r) (riseS cs r)
/-- Where two lists differ. -/
def diffs (xs ys : List Int) : List Int := selN (fun i => decide (xs.getD i default ≠ ys.getD i default)) xs.length
/-- The first error of a case and scales. -/
def scsE : List (Int × Int) → Int
  | [] => 0
  | s :: l => if scE s.1 s.2 ≠ 0 then scE s.1 s.2 else scsE l
theorem fst_scsE (l : List (Int × Int)) : (K.fst (fun s : Int × Int => scE s.1 s.2) l).2 = scsE l := by
  induction l with
  | nil => rfl
  | cons s l ih =>
    unfold scsE
    split
    · rename_i h; simp [K.fst, List.findIdx?_cons, h]
    · rename_i h
      have h' : scE s.1 s.2 = 0 := by omega
      rw [← ih]
      simp only [K.fst, List.findIdx?_cons, h', bne_self_eq_false, Bool.false_eq_true, if_false]
      cases l.findIdx? (fun x => scE x.1 x.2 != 0) <;> simp
theorem selN_t {p : Nat → Bool} {n : Nat} (h : p n = true) : selN p (n + 1) = selN p n ++ [(n : Int)] := by rw [selN_succ, if_pos h]
theorem selN_f {p : Nat → Bool} {n : Nat} (h : p n = false) : selN p (n + 1) = selN p n := by rw [selN_succ, h]; simp
/-- The entries' bounds. -/
@[reducible] def Bd (lo hi : Int) (xs : List Int) : Prop := ∀ i : Nat, lo ≤ xs.getD i default ∧ xs.getD i default ≤ hi
theorem bd_of {lo hi : Int} {xs : List Int} (h0 : lo ≤ 0) (h1 : 0 ≤ hi) (h : ∀ x ∈ xs, lo ≤ x ∧ x ≤ hi) : Bd lo hi xs := fun i => by
  rcases Nat.lt_or_ge i xs.length with h2 | h2
  · exact h _ (K.gt_mem h2)
  · have : xs.getD i default = 0 := by simp [List.getD_eq_getElem?_getD, List.getElem?_eq_none h2]
    rw [this]; exact ⟨h0, h1⟩
theorem Good.bdh {kind base most : Int} {hs : List Int} {rs : List (Int × Int)} (g : Good kind base most hs rs) : Bd 0 9000 hs := bd_of (by omega) (by omega) fun x hx => by
  have := g.h x hx; have := g.b; omega
theorem Good.bdc {kind base most u d : Int} {hs : List Int} {rs : List (Int × Int)} (g : Good kind base most hs rs) (hp : Parts u d) : Bd 0 270001 (cuts kind base u d hs) := bd_of (by omega) (by omega) fun x hx => by
  obtain ⟨y, hy, rfl⟩ := List.mem_map.1 hx
  have := g.h y hy; have := g.b
  exact cutS_bd (by omega) (by omega) hp
theorem mulb {a b A B : Int} (h : 0 ≤ a ∧ a ≤ A) (hb : -B ≤ b ∧ b ≤ B) : -(A * B) ≤ a * b ∧ a * b ≤ A * B := by
  have hB : 0 ≤ B := by omega
  have h1 : a * b ≤ a * B := Int.mul_le_mul_of_nonneg_left hb.2 h.1
  have h2 : a * B ≤ A * B := Int.mul_le_mul_of_nonneg_right h.2 hB
  have h3 : a * (-B) ≤ a * b := Int.mul_le_mul_of_nonneg_left hb.1 h.1
  have h4 : a * (-B) = -(a * B) := Int.mul_neg a B
  omega
theorem load8 {P : Program} {w0 : World} {L : List K.Chunk} {l : List Value} {d : Option Tmp} {ty : TypeId} {ps : String} {af : Array Edge} {g : Option (Nat × Bool)} {t b e : Nat} {x : Operand} {xs : List Int} {z : Int} (ho : K.one P t = true) (hx : K.ev l x = .pointer (some ⟨b, 0 + z.toNat * 1, none⟩))
    (hm : K.blk b e (a8 xs) ∈ L) (h0 : 0 ≤ z) (h8 : z < 8) : K.Sil P w0 L ⟨d, .load t x, ty, ps, af, g⟩ l (.int .i64 (xs.getD z.toNat default)) :=
  (K.load1_ix ho hx hm (by rw [a8_len]; omega)).cast (by rw [nth_a8 (by omega)]; simp)
theorem a8_over {xs : List Int} {v : Int} {z : Int} (h : xs.length < 8) (hz : z = (xs.length : Int)) : K.setn (a8 xs) (0 + z.toNat * 1) (.int .i64 v) = a8 (xs ++ [v]) := by
  subst hz
  have e : 0 + ((xs.length : Int)).toNat * 1 = xs.length := by omega
  rw [e, a8_set h]
theorem snoc_at {xs : List Int} {v z : Int} (hz : z = (xs.length : Int)) : (xs ++ [v]).getD z.toNat default = v := by
  subst hz
  simp [List.getD_eq_getElem?_getD]
theorem rnd_ix {kind : Int} (hk : 1 ≤ kind ∧ kind ≤ 3) : Value.agg ((([Value.func (.func 99) #[] #[], .func (.func 100) #[] #[], .func (.func 101) #[] #[]] : List Value).drop ((kind - 1).toNat * 1)).take 1).toArray = .agg #[.func (.func (98 + kind.toNat)) #[] #[]] := by
  rcases (show kind = 1 ∨ kind = 2 ∨ kind = 3 by omega) with h | h | h <;> subst h <;> rfl
theorem ext_getD {E : Type} [Inhabited E] {xs ys : List E} (hl : xs.length = ys.length) (h : ∀ j, j < xs.length → xs.getD j default = ys.getD j default) : xs = ys := by
  apply List.ext_getElem hl
  intro j h1 h2
  have := h j h1
  simpa [List.getD_eq_getElem?_getD, h1, h2] using this
theorem offS_ref {u v a b : Int} (h : a ≠ 0) : offS u v a b = (1000 * max (v * b - u * a) (-(v * b - u * a)) + u * max a (-a) - 1) / (u * max a (-a)) := by
  unfold offS
  rw [if_neg h]
  congr 1
  generalize v * b - u * a = n
  generalize u * max a (-a) = m
  omega
/-- The error of a case and a scale. -/
def askE (kind base most : Int) (hs : List Int) (rs : List (Int × Int)) (u d : Int) : Int := if (chk kind base most hs rs).2.2 ≠ 0 then (chk kind base most hs rs).2.2 else scE u d
theorem Good.road4 {kind base most : Int} {hs : List Int} {rs : List (Int × Int)} (g : Good kind base most hs rs) {i : Nat} (h : i < rs.length) : 0 ≤ (rs.getD i default).1 ∧ (rs.getD i default).1 < hs.length ∧ 0 ≤ (rs.getD i default).2 ∧ (rs.getD i default).2 < hs.length :=
  have := g.road h; ⟨this.1, this.2.1, this.2.2.1, this.2.2.2.1⟩
theorem scsE1 {u v : Int} : scsE [(u, v)] = scE u v := by unfold scsE scsE; split <;> simp_all
theorem scsE2 {u v u2 v2 : Int} : scsE [(u, v), (u2, v2)] = if scE u v ≠ 0 then scE u v else scE u2 v2 := by unfold scsE; rw [scsE1]
section
variable {kind base most : Int} {hs : List Int} {rs : List (Int × Int)} {u v u2 v2 : Int}
theorem askE_bad (h : (chk kind base most hs rs).2.2 ≠ 0) : askE kind base most hs rs u v = (chk kind base most hs rs).2.2 := by unfold askE; rw [if_pos h]
theorem askE_good (g : Good kind base most hs rs) : askE kind base most hs rs u v = scE u v := by unfold askE; rw [g.chk]; rfl
theorem askE_0 (h : askE kind base most hs rs u v = 0) : Good kind base most hs rs ∧ scE u v = 0 := by
  by_cases h1 : (chk kind base most hs rs).2.2 = 0
  · have g := chk_good h1
    exact ⟨g, by rw [askE_good g] at h; exact h⟩
  · rw [askE_bad h1] at h; exact absurd h h1
/-- The error of a case and two scales. -/
def ask2 (kind base most : Int) (hs : List Int) (rs : List (Int × Int)) (u v u2 v2 : Int) : Int := if askE kind base most hs rs u v ≠ 0 then askE kind base most hs rs u v else scE u2 v2
def cutsR (kind base most : Int) (hs : List Int) (rs : List (Int × Int)) (u v : Int) : List Int := if askE kind base most hs rs u v = 0 then cuts kind base u v hs else []
def offsR (kind base most : Int) (hs : List Int) (rs : List (Int × Int)) (u v : Int) : List Int := if askE kind base most hs rs u v = 0 then offs u v hs (cuts kind base u v hs) rs else []
def flatsR (kind base most : Int) (hs : List Int) (rs : List (Int × Int)) (u v : Int) : List Int := if askE kind base most hs rs u v = 0 then flats hs (cuts kind base u v hs) rs else []
def apartR (kind base most : Int) (hs : List Int) (rs : List (Int × Int)) (u v u2 v2 : Int) : List Int := if ask2 kind base most hs rs u v u2 v2 = 0 then diffs (cuts kind base u v hs) (cuts kind base u2 v2 hs) else []
end
def litA8 (xs : List Int) : List Lit := (List.range 8).map fun i => .int .i64 (xs.getD i default)
theorem litA8_eq {xs ys : List Int} (hl : xs.length = ys.length) (h8 : xs.length ≤ 8) : litA8 xs = litA8 ys ↔ xs = ys := by
  constructor
  · intro h
    refine ext_getD hl fun j hj => ?_
    have h1 : (litA8 xs)[j]? = (litA8 ys)[j]? := by rw [h]
    simpa [litA8, List.getElem?_map, List.getElem?_range (show j < 8 by omega)] using h1
  · intro h; rw [h]
theorem diffs_self (xs : List Int) : diffs xs xs = [] := by
  unfold diffs selN
  simp
end Go.Proofs.Ytafkbioeoklldaa
