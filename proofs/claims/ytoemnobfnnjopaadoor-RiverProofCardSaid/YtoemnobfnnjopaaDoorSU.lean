/-
  Plain lemmas and plain functions, several texts joined.
  Conditions stand in each theorem.
-/
import Derived.Test.YtoemnobfnnjopaaDoorSM
set_option linter.unusedSimpArgs false
set_option linter.unusedVariables false
/-
  Rivers that are all higher by as much: what stays.
  No conditions but those in the theorems.
-/
namespace Go.Proofs.YtoemnobfnnjopaaDoor
open Go
/-- The first k heights, raised. -/
def riseF (r : List RvT) (b : Int) (k : Nat) : List Int := (List.range k).map fun i => (r.getD i default).ht + b
def upS (r : List RvT) (b : Int) : List RvT := wthS r (riseF r b r.length)
/-- No point is out of reach. -/
def reaS (r : List RvT) : Bool := (List.range r.length).all fun i => !outS r i
section
variable {r s : List RvT} {b : Int} {i k a n t : Nat} {x : Nat → Int}
theorem rise_s : riseF r b (k + 1) = riseF r b k ++ [(r.getD k default).ht + b] := by unfold riseF; rw [List.range_succ, List.map_append]; rfl
theorem rise_len : (riseF r b k).length = k := by unfold riseF; rw [List.length_map, List.length_range]
theorem rise_at (hi : i < k) : (riseF r b k).getD i default = (r.getD i default).ht + b := map_at hi
theorem up_len : (upS r b).length = r.length := w_len
theorem up_same : Same r (upS r b) := w_same
theorem up_ht (hi : i < r.length) : ((upS r b).getD i default).ht = (r.getD i default).ht + b := by
  unfold upS; rw [w_at hi]; exact rise_at hi
/-- Two rivers, the second one higher. -/
structure Up (r q : List RvT) (b : Int) : Prop extends Same r q where
  h : ∀ i, i < r.length → (q.getD i default).ht = (r.getD i default).ht + b
theorem up_up : Up r (upS r b) b := ⟨up_same, fun _ hi => up_ht hi⟩
theorem Up.back (u : Up r s b) : Up s r (-b) := by
  refine ⟨⟨⟨u.l.symm, fun i => (u.d i).symm, fun i => (u.n i).symm⟩, fun i => (u.s i).symm⟩, fun i hi => ?_⟩
  rw [u.l] at hi
  rw [u.h i hi]; omega
theorem Up.own (u : Up r s b) (hi : i < r.length) : (ownS s).getD i default = (ownS r).getD i default + b := by
  rw [own_at (by rw [u.l]; exact hi), own_at hi, u.h i hi]
theorem Up.bad (u : Up r s b) (g : Good r) (hi : i < r.length) : badB s (ownS s) i = badB r (ownS r) i := by
  rw [Bool.eq_iff_iff, bad_iff, bad_iff, u.d, u.s]
  constructor
  · rintro ⟨h1, h2⟩
    refine ⟨h1, ?_⟩
    rw [u.own hi, u.own (dn_lt g hi h1)] at h2; omega
  · rintro ⟨h1, h2⟩
    refine ⟨h1, ?_⟩
    rw [u.own hi, u.own (dn_lt g hi h1)]; omega
theorem Up.badL (u : Up r s b) (hc : (chk r).2.2 = 0) (hc2 : (chk s).2.2 = 0) : badL s = badL r := by
  have g := chk_good hc
  unfold Go.Proofs.YtoemnobfnnjopaaDoor.badL
  rw [if_neg (by omega), if_neg (by omega)]
  unfold badS
  rw [u.l]
  exact selN_congr fun i hi => u.bad g hi
theorem Up.stop (u : Up r s b) (g : Good r) (ha : a < r.length) : stopN s a = stopN r a := by
  have e : ∀ j, stopB s a j = stopB r a j := fun j => by
    unfold stopB
    rw [u.toSame.toLike.stps, u.d, u.bad g (stps_lt g ha j)]
  have e2 : stopB s a = stopB r a := funext e
  unfold stopN
  rw [u.l, e2]
theorem Up.pou (u : Up r s b) (hc : (chk r).2.2 = 0) (hc2 : (chk s).2.2 = 0) (ha : a < r.length) : pouE r (a : Int) = 0 ∧ pouE s (a : Int) = 0 ∧ pouL s (a : Int) = pouL r (a : Int) := by
  have g := chk_good hc
  have e1 : pouE r (a : Int) = 0 := by unfold pouE; rw [if_neg (by omega), if_pos (by omega)]
  have e2 : pouE s (a : Int) = 0 := by unfold pouE; rw [if_neg (by omega), if_pos (by rw [u.l]; omega)]
  refine ⟨e1, e2, ?_⟩
  unfold pouL
  rw [if_pos e1, if_pos e2, Int.toNat_natCast]
  unfold pouredS
  rw [u.stop g ha]
  unfold stepL
  exact List.map_congr_left fun j _ => by rw [u.toSame.toLike.stps]
theorem rea_iff : reaS r = true ↔ ∀ i, i < r.length → outS r i = false := by
  unfold reaS
  rw [List.all_eq_true]
  constructor
  · intro h i hi; simpa using h i (List.mem_range.2 hi)
  · intro h i hi; simpa using h i (List.mem_range.1 hi)
theorem Up.con (u : Up r s b) (hi : i < r.length) (hk : k < r.length) : conS s i k = conS r i k := by
  unfold conS
  rw [u.toSame.drp, u.toSame.drp, u.h i hi, u.h k hk]
  rw [show (r.getD k default).ht + b - ((r.getD i default).ht + b) = (r.getD k default).ht - (r.getD i default).ht by omega, show (r.getD i default).ht + b - ((r.getD k default).ht + b) = (r.getD i default).ht - (r.getD k default).ht by omega]
theorem Up.cor (u : Up r s b) (h1 : reaS r = true) (h2 : reaS s = true) : corS s t = corS r t := by
  have o1 := rea_iff.1 h1
  have o2 := rea_iff.1 h2
  rw [u.l] at o2
  have e : ∀ i, i < r.length → corIn s t i = corIn r t i := fun i hi => by
    unfold corIn
    rw [o1 i hi, o2 i hi]
    congr 2
    rw [Bool.eq_iff_iff, List.all_eq_true, List.all_eq_true]
    have key : ∀ k, k < i → corAt s t i k = corAt r t i k := fun k hk => by unfold corAt; rw [u.con hi (by omega)]
    constructor
    · intro h k hk; rw [← key k (List.mem_range.1 hk)]; exact h k hk
    · intro h k hk; rw [key k (List.mem_range.1 hk)]; exact h k hk
  unfold corS
  rw [u.l, Bool.eq_iff_iff, List.all_eq_true, List.all_eq_true]
  constructor
  · intro h k hk; rw [← e k (List.mem_range.1 hk)]; exact h k hk
  · intro h k hk; rw [e k (List.mem_range.1 hk)]; exact h k hk
theorem Up.corF (u : Up r s b) (h1 : reaS r = true) (h2 : reaS s = true) : ∀ n, corF s n = corF r n
  | 0 => by unfold Go.Proofs.YtoemnobfnnjopaaDoor.corF; rw [u.l]
  | n + 1 => by unfold Go.Proofs.YtoemnobfnnjopaaDoor.corF; rw [u.corF h1 h2 n, u.cor h1 h2]
theorem Up.few (u : Up r s b) (hc : (chk r).2.2 = 0) (hc2 : (chk s).2.2 = 0) (h1 : reaS r = true) (h2 : reaS s = true) : fewL s = fewL r ∧ mustL s = mustL r ∧ mayL s = mayL r := by
  have e : corL s = corL r := by unfold corL; rw [u.l, u.corF h1 h2]
  unfold fewL mustL mayL
  rw [if_neg (by omega), if_neg (by omega), if_neg (by omega), if_neg (by omega), if_neg (by omega), if_neg (by omega), e, u.l]
  exact ⟨rfl, rfl, rfl⟩
theorem Up.okP (u : Up r s b) {c : Int} (h0 : 0 ≤ c) (hc : c < 2 ^ i) (hi : i < r.length) : okP s i c = okP r i c := by
  unfold Go.Proofs.YtoemnobfnnjopaaDoor.okP
  congr 1
  rw [Bool.eq_iff_iff, List.any_eq_true, List.any_eq_true]
  have key : ∀ k ∈ bitsL c, conS s i k.toNat = conS r i k.toNat := fun k hk => by
    have := ch_bits h0 hc hk
    exact u.con hi (by omega)
  constructor
  · rintro ⟨k, hk, h⟩; exact ⟨k, hk, by rw [← key k hk]; exact h⟩
  · rintro ⟨k, hk, h⟩; exact ⟨k, hk, by rw [key k hk]; exact h⟩
theorem Up.fill (u : Up r s b) (h1 : reaS r = true) (h2 : reaS s = true) : ∀ f cs l st, l.length + f = r.length → CsOk cs l.length → fillP s f cs l st = fillP r f cs l st
  | 0, cs, l, st, _, _ => rfl
  | f + 1, cs, l, st, hf, ok => by
    have o1 := rea_iff.1 h1 l.length (by omega)
    have o2 := rea_iff.1 h2 l.length (by rw [u.l]; omega)
    by_cases hcut : st.2 ≤ cs.length
    · rw [fillP_cut hcut, fillP_cut hcut]
    · rw [fillP_loop hcut o1, fillP_loop hcut o2]
      have key : ∀ m, m ≤ cs.length + 1 → loopP (fillP s f) s cs l st m = loopP (fillP r f) r cs l st m := by
        intro m
        induction m with
        | zero => intro _; rfl
        | succ m ih =>
          intro hm
          have hb := chX_bd (i := l.length) ok (show m ≤ cs.length by omega)
          rw [loopP, loopP, ih (by omega), u.okP hb.1 hb.2 (by omega), u.fill h1 h2 f _ _ _ (by rw [List.length_append, List.length_singleton]; omega) (by rw [List.length_append]; exact setX_ok ok (by omega))]
      exact key _ (Nat.le_refl _)
theorem Up.prf (u : Up r s b) (hc : (chk r).2.2 = 0) (hc2 : (chk s).2.2 = 0) (h1 : reaS r = true) (h2 : reaS s = true) : prfL s = prfL r := by
  unfold prfL prfS
  rw [if_neg (by omega), if_neg (by omega), u.l, u.fill h1 h2 r.length [] [] _ (by simp) CsOk.nil]
/-! The least change: heights out of bounds are no better. -/
theorem most_dn (g : Good r) (hi : i < r.length) (hd : (r.getD i default).dn ≠ -1) : mostF r (r.getD i default).dn.toNat r.length + (r.getD i default).ls ≤ mostF r i r.length := by
  have hp := g.p i hi
  have hb : ∀ k, k < r.length → 0 ≤ drp r k i → mostF r (r.getD i default).dn.toNat r.length ≤ 9000 - (drp r k i + (r.getD i default).ls) := fun k hk hk2 => by
    have b1 := (drp_ge g hk).1 hk2
    have b2 := bl_tr b1 (bl_down hd)
    have := most_le (r := r) (i := (r.getD i default).dn.toNat) r.length hk
    rw [drp_bl g hk b2] at this
    have := DM_d g hi hd
    rw [drp_bl g hk b1]
    omega
  have h0 := hb i hi (by rw [drp_0 g hi]; omega)
  rw [drp_0 g hi] at h0
  refine most_ge (by omega) _ (fun k hk => ?_)
  rcases Int.lt_or_le (drp r k i) 0 with h | h
  · omega
  · have := hb k hk h; omega
theorem clamp (g : Good r) (hr : reaS r = true) (hx : ∀ i, i < r.length → (r.getD i default).dn ≠ -1 → x (r.getD i default).dn.toNat ≤ x i) : ∃ y, Lv r y ∧ cstV r y ≤ cstV r x := by
  have ho := rea_iff.1 hr
  have hu : ∀ i, i < r.length → 0 ≤ mostF r i r.length - DM r i ∧ mostF r i r.length ≤ 9000 := fun i hi => by
    have := most_bd (i := i) g r.length (Nat.le_refl _)
    have := DM_le g hi; omega
  refine ⟨fun i => min (max (x i) 0) (mostF r i r.length - DM r i), ⟨fun i hi => ?_, fun i hi hd => ?_⟩, sg_le fun i hi => ?_⟩
  · have := hu i hi
    have := DM_le g hi
    show 0 ≤ min (max (x i) 0) (mostF r i r.length - DM r i) + DM r i ∧ min (max (x i) 0) (mostF r i r.length - DM r i) + DM r i ≤ 9000
    omega
  · have h1 := hx i hi hd
    have h2 := most_dn g hi hd
    have h3 := DM_d g hi hd
    show min (max (x _) 0) (mostF r _ r.length - DM r _) ≤ min (max (x i) 0) (mostF r i r.length - DM r i)
    omega
  · have h1 := hu i hi
    have h2 := (out_no (ho i hi) (mth_is g).1).1
    rw [drp_mth g hi] at h2
    have hp := g.p i hi
    have h3 : (r.getD i default).ht ≤ mostF r i r.length := most_ge hp.1.2.2 _ (fun k hk => by have := (out_no (ho i hi) hk).2; omega)
    show ownC r i (min (max (x i) 0) (mostF r i r.length - DM r i)) ≤ ownC r i (x i)
    unfold ownC
    omega
theorem least_lv (g : Good r) (L : Lv r x) : chgS r ≤ cstV r x := by
  obtain ⟨y, Ly, hm, hc⟩ := round_lv g _ _ L rfl
  exact Int.le_trans (ask_le (fx := []) g ⟨Ly, hm, fun i _ hf => absurd hf (Nat.not_lt_zero _)⟩) hc
theorem Up.least1 (u : Up r s b) (g : Good r) (g2 : Good s) (h2 : reaS s = true) : chgS s ≤ chgS r := by
  obtain ⟨R, hch⟩ := least_is g
  have L := lv_of g R
  have e1 := lv_chg (h := hgtF r (chgS r) r.length) (x := fun i => (hgtF r (chgS r) r.length).getD i default - DM r i) (fun i _ => by show _ = (hgtF r (chgS r) r.length).getD i default - DM r i + DM r i; omega) r.length (Nat.le_refl _)
  obtain ⟨y, Ly, hy⟩ := clamp (r := s) (x := fun i => (hgtF r (chgS r) r.length).getD i default - DM r i + b) g2 h2 (fun i hi hd => by
    rw [u.l] at hi
    rw [u.d] at hd ⊢
    have := L.d i hi hd
    omega)
  have h3 := least_lv g2 Ly
  have e2 : cstV s (fun i => (hgtF r (chgS r) r.length).getD i default - DM r i + b) = cstV r (fun i => (hgtF r (chgS r) r.length).getD i default - DM r i) := by
    unfold cstV cstF
    rw [u.l]
    refine sg_congr fun i hi => ?_
    show ownC s i ((hgtF r (chgS r) r.length).getD i default - DM r i + b) = ownC r i ((hgtF r (chgS r) r.length).getD i default - DM r i)
    unfold ownC
    rw [u.toSame.DM, u.h i hi]
    omega
  unfold chgV at hch
  unfold cstV at e2
  rw [u.l] at e2
  have h4 : cstV s y ≤ cstF s (fun i => (hgtF r (chgS r) r.length).getD i default - DM r i + b) r.length := by
    have := hy
    unfold cstV at this ⊢
    rw [u.l] at this ⊢
    exact this
  omega
theorem Up.least (u : Up r s b) (hc : (chk r).2.2 = 0) (hc2 : (chk s).2.2 = 0) (h1 : reaS r = true) (h2 : reaS s = true) : lstC s = lstC r := by
  have g := chk_good hc
  have g2 := chk_good hc2
  have a := u.least1 g g2 h2
  have c := u.back.least1 g2 g h1
  unfold lstC
  rw [if_neg (by omega), if_neg (by omega)]
  omega
theorem rea_f (hi : i < r.length) (h : outS r i = true) : reaS r = false := by
  cases e : reaS r with
  | false => rfl
  | true => rw [rea_iff.1 e i hi] at h; cases h
theorem fill_len9 : ∀ f cs l st, l.length + f = n → st.1.length ≤ n → (fillP r f cs l st).1.length ≤ n
  | 0, cs, l, st, hf, hs => by
    rw [fillP]
    split
    · exact hs
    · show l.length ≤ n; omega
  | f + 1, cs, l, st, hf, hs => by
    rw [fillP]
    split
    · exact hs
    · split
      · exact fill_len9 f _ _ _ (by rw [List.length_append, List.length_singleton]; omega) hs
      · have key : ∀ m, (loopP (fillP r f) r cs l st m).1.length ≤ n := by
          intro m
          induction m with
          | zero => exact hs
          | succ m ih =>
            rw [loopP]
            split
            · exact fill_len9 f _ _ _ (by rw [List.length_append, List.length_singleton]; omega) ih
            · exact ih
        exact key _
theorem prf_9 : (prfL r).length ≤ 9 := by
  unfold prfL
  split
  · exact Nat.zero_le _
  · rename_i h
    have g := (chk_good (Decidable.not_not.1 h)).n.2
    exact Nat.le_trans (fill_len9 r.length [] [] _ (by simp) (Nat.zero_le _)) g
theorem must_9 : (mustL r).length ≤ 9 ∧ (mayL r).length ≤ 9 := by
  unfold mustL mayL
  constructor
  all_goals
    split
    · exact Nat.zero_le _
    · exact selN_len
end
end Go.Proofs.YtoemnobfnnjopaaDoor
