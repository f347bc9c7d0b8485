/-
  Walks of the program's functions, printed by program: what each returns.
  Conditions stand in each theorem.
-/
import Derived.WalkArith
import Derived.Laws.Closers25b
import Derived.Test.YtoemnobfnnjopaaDoorWa
set_option linter.unusedSimpArgs false
set_option linter.unusedVariables false
namespace Go.Proofs.YtoemnobfnnjopaaDoor
open Go.RowKit Go
open Go.K (setd setn ev nth over cl eI eP eT setM setF)
attribute [local irreducible] K.blk K.row
def posV : Nat → Value
  | 0 => undef
  | p + 1 => .int .i64 (p : Int)
def posN : Value → Nat
  | .int _ q => q.toNat + 1
  | _ => 0
theorem posN_V {p : Nat} : posN (posV p) = p := by cases p <;> simp [posN, posV, undef]
theorem dec_key {s : ByteArray} {p : Nat} : ((Utf8.decode s p).2 = 1 ∧ ((Utf8.decode s p).1 : Int) = K.bt s p ∧ K.bt s p < 128) ∨ (128 ≤ ((Utf8.decode s p).1 : Int) ∧ 128 ≤ K.bt s p) := by
  by_cases h : K.bt s p < 128
  · left
    rw [K.decode_lo h]
    exact ⟨rfl, rfl, h⟩
  · right
    have := K.decode_hi h
    omega
theorem size_ne {s : ByteArray} : (!(s.toList == (⟨#[]⟩ : ByteArray).toList)) = decide (1 ≤ s.size) := by
  have h0 : (⟨#[]⟩ : ByteArray).toList = [] := (toList_nil_iff_emptyBytes _).2 rfl
  rw [h0, Bool.eq_iff_iff]
  simp only [Bool.not_eq_true', beq_eq_false_iff_ne, ne_eq, decide_eq_true_eq, toList_nil_iff_emptyBytes]
  constructor
  · intro h
    rcases Nat.eq_zero_or_pos s.size with h1 | h1
    · exfalso; apply h
      cases s with
      | mk d => simp [ByteArray.size] at h1; subst h1; rfl
    · exact h1
  · rintro h rfl
    exact absurd h (by decide)
theorem ok_f {p : Nat} {b : Int} (h : ¬ ((97 ≤ b ∧ b ≤ 122) ∨ (0 < p ∧ ((48 ≤ b ∧ b ≤ 57) ∨ b = 45)))) : okC p b = false := decide_eq_false h
theorem ok_t {p : Nat} {b : Int} (h : (97 ≤ b ∧ b ≤ 122) ∨ (0 < p ∧ ((48 ≤ b ∧ b ≤ 57) ∨ b = 45))) : okC p b = true := decide_eq_true h
theorem name_end {s : ByteArray} {p : Nat} (h1 : 1 ≤ s.size) (hp : ¬ p < s.size) (hall : ∀ j, j < p → okC j (K.bt s j) = true) : decide ((s.size : Int) ≤ 16) = nameB s := by
  by_cases h : s.size ≤ 16
  · rw [name_t ⟨h1, h⟩ (fun i hi => hall i (by omega)), decide_eq_true (by omega)]
  · rw [name_f1 (by omega), decide_eq_false (by omega)]
theorem name_end0 {s : ByteArray} (h1 : ¬ 1 ≤ s.size) : false = nameB s := by rw [name_f1 (by omega)]

set_option maxRecDepth 100000 in
theorem c48 {s : ByteArray} (w : World) :
    Calls Tryd.prog 48 [.string s].toArray w (K.Gives (.bool (nameB s)) w) := by
  refine K.enter (args := [.string s]) Tryd.func48 rfl (n := 40) rfl ?_
  simp only [List.replicate, List.cons_append, List.nil_append]
  refine sr ?_
  refine qa ?_
  refine sn ?_
  refine K.seq ?_
  refine sr ?_
  refine qm ?_
  refine K.seq_loud (K.rangeS sT_9 rfl) rfl ?_
  rintro b6 _
  refine zN ?_
  refine sn ?_
  refine K.block ?_
  refine K.loopW [3] [2, 4, 7, 8, 9, 10, 11, 12, 13, 14, 15, 16, 17, 18, 19, 20, 21, 22, 23, 24, 25, 26, 27, 28, 29, 30, 31, 32, 33] (fun vi L => ∃ p : Nat, vi = [posV p] ∧ L = [K.sit b6 s p] ∧ p ≤ s.size ∧ ∀ j, j < p → okC j (K.bt s j) = true) (fun vi => s.size - posN (K.nth vi 0)) ?_ ?_
  · exact ⟨0, rfl, rfl, Nat.zero_le _, fun j hj => absurd hj (Nat.not_lt_zero j)⟩
  intro vi vr L hJ
  obtain ⟨p, rfl, rfl, hps, hall⟩ := hJ
  try dsimp only [setd, setn, ev, nth, over, cl, eI, eP, eT, eR, setM, setF, List.map, List.append, List.drop, List.take]
  refine sr ?_
  by_cases hnx7 : p < s.size
  · refine K.seq_upd (K.nextS_more rfl hnx7 (K.rp0)) rfl ?_
    rintro _ _
    refine zN ?_
    refine qx ?_
    refine sn ?_
    refine K.seq ?_
    refine K.cond_true rfl ?_
    refine K.skip ?_
    refine K.norm_then ?_
    refine K.block ?_
    refine sr ?_
    refine qx ?_
    refine qx ?_
    iterate 2 refine qa ?_
    refine sn ?_
    refine sr ?_
    refine qm ?_
    refine qp (K.geq rfl rfl) ?_
    refine qm ?_
    refine K.split 13 rfl (fun hg13 => ?_) (fun hg13 => ?_)
    · try replace hg13 := of_decide_eq_true hg13
      refine qm ?_
      refine qp (K.leq rfl rfl) ?_
      refine qp (K.pick_t rfl) ?_
      refine qm ?_
      refine K.split 17 rfl (fun hg17 => ?_) (fun hg17 => ?_)
      · try replace hg17 := of_decide_eq_true hg17
        iterate 14 refine qs ?_
        refine qp (K.pick_t rfl) ?_
        first | refine K.seq_pure (K.not_d rfl) rfl ?_ | refine K.seq_pure (K.not_ rfl) rfl ?_
        refine zN ?_
        refine sn ?_
        refine K.cond rfl (fun ht33 => ?_) (fun ht33 => ?_)
        · try replace ht33 := of_decide_eq_true ht33
          refine sr ?_
          refine qa ?_
          refine sn ?_
          refine K.ret ?_
          refine K.ret_block ?_
          refine K.ret_then ?_
          refine K.ret_block ?_
          refine K.ret_then ?_
          refine K.end_ret (fun w _ => K.res_tmp rfl w) ?_
          first
            | exact absurd ht33 (by decide)
            | exact K.gives_b rfl (name_f2 hnx7 (ok_f (by rcases dec_key (s := s) (p := p) with ⟨hk1, hk2, hk3⟩ | ⟨hk1, hk2⟩ <;> omega))).symm
        try replace ht33 := of_decide_eq_false ht33
        refine K.skip ?_
        refine K.norm_block ?_
        have hc : okC p (K.bt s p) = true ∧ (Utf8.decode s p).2 = 1 := by
          first
            | exact absurd ht33 (by decide)
            | (rcases dec_key (s := s) (p := p) with ⟨hk1, hk2, hk3⟩ | ⟨hk1, hk2⟩ <;> first | exact ⟨ok_t (by omega), hk1⟩ | (exfalso; omega))
        exact K.round_endW (L'' := [K.sit b6 s (p + 1)]) [.int .i64 (p : Int)] ⟨p + 1, rfl, rfl, by omega, K.lt_succ_case hall hc.1⟩ (by show s.size - posN (.int .i64 (p : Int)) < s.size - posN (posV p); rw [posN_V]; simp [posN]; omega) (by rw [hc.2]; exact List.Sublist.refl _) (by kernel_rfl)
      try replace hg17 := of_decide_eq_false hg17
      refine qm ?_
      refine qp (K.gtr rfl rfl) ?_
      refine qm ?_
      refine K.split 20 rfl (fun hg20 => ?_) (fun hg20 => ?_)
      · try replace hg20 := of_decide_eq_true hg20
        refine qm ?_
        refine qp (K.geq rfl rfl) ?_
        refine qm ?_
        refine K.split 23 rfl (fun hg23 => ?_) (fun hg23 => ?_)
        · try replace hg23 := of_decide_eq_true hg23
          refine qm ?_
          refine qp (K.leq rfl rfl) ?_
          refine qp (K.pick_t rfl) ?_
          refine qm ?_
          refine K.split 27 rfl (fun hg27 => ?_) (fun hg27 => ?_)
          · try replace hg27 := of_decide_eq_true hg27
            iterate 2 refine qs ?_
            refine qp (K.pick_t rfl) ?_
            refine qp (K.pick_t rfl) ?_
            refine qp (K.pick_f rfl) ?_
            first | refine K.seq_pure (K.not_d rfl) rfl ?_ | refine K.seq_pure (K.not_ rfl) rfl ?_
            refine zN ?_
            refine sn ?_
            refine K.cond rfl (fun ht33 => ?_) (fun ht33 => ?_)
            · try replace ht33 := of_decide_eq_true ht33
              refine sr ?_
              refine qa ?_
              refine sn ?_
              refine K.ret ?_
              refine K.ret_block ?_
              refine K.ret_then ?_
              refine K.ret_block ?_
              refine K.ret_then ?_
              refine K.end_ret (fun w _ => K.res_tmp rfl w) ?_
              first
                | exact absurd ht33 (by decide)
                | exact K.gives_b rfl (name_f2 hnx7 (ok_f (by rcases dec_key (s := s) (p := p) with ⟨hk1, hk2, hk3⟩ | ⟨hk1, hk2⟩ <;> omega))).symm
            try replace ht33 := of_decide_eq_false ht33
            refine K.skip ?_
            refine K.norm_block ?_
            have hc : okC p (K.bt s p) = true ∧ (Utf8.decode s p).2 = 1 := by
              first
                | exact absurd ht33 (by decide)
                | (rcases dec_key (s := s) (p := p) with ⟨hk1, hk2, hk3⟩ | ⟨hk1, hk2⟩ <;> first | exact ⟨ok_t (by omega), hk1⟩ | (exfalso; omega))
            exact K.round_endW (L'' := [K.sit b6 s (p + 1)]) [.int .i64 (p : Int)] ⟨p + 1, rfl, rfl, by omega, K.lt_succ_case hall hc.1⟩ (by show s.size - posN (.int .i64 (p : Int)) < s.size - posN (posV p); rw [posN_V]; simp [posN]; omega) (by rw [hc.2]; exact List.Sublist.refl _) (by kernel_rfl)
          try replace hg27 := of_decide_eq_false hg27
          refine qm ?_
          refine qp (K.eql rfl rfl) ?_
          refine qp (K.pick_f rfl) ?_
          refine qp (K.pick_t rfl) ?_
          refine qp (K.pick_f rfl) ?_
          first | refine K.seq_pure (K.not_d rfl) rfl ?_ | refine K.seq_pure (K.not_ rfl) rfl ?_
          refine zN ?_
          refine sn ?_
          refine K.cond rfl (fun ht33 => ?_) (fun ht33 => ?_)
          · try replace ht33 := of_decide_eq_true ht33
            refine sr ?_
            refine qa ?_
            refine sn ?_
            refine K.ret ?_
            refine K.ret_block ?_
            refine K.ret_then ?_
            refine K.ret_block ?_
            refine K.ret_then ?_
            refine K.end_ret (fun w _ => K.res_tmp rfl w) ?_
            first
              | exact absurd ht33 (by decide)
              | exact K.gives_b rfl (name_f2 hnx7 (ok_f (by rcases dec_key (s := s) (p := p) with ⟨hk1, hk2, hk3⟩ | ⟨hk1, hk2⟩ <;> omega))).symm
          try replace ht33 := of_decide_eq_false ht33
          refine K.skip ?_
          refine K.norm_block ?_
          have hc : okC p (K.bt s p) = true ∧ (Utf8.decode s p).2 = 1 := by
            first
              | exact absurd ht33 (by decide)
              | (rcases dec_key (s := s) (p := p) with ⟨hk1, hk2, hk3⟩ | ⟨hk1, hk2⟩ <;> first | exact ⟨ok_t (by omega), hk1⟩ | (exfalso; omega))
          exact K.round_endW (L'' := [K.sit b6 s (p + 1)]) [.int .i64 (p : Int)] ⟨p + 1, rfl, rfl, by omega, K.lt_succ_case hall hc.1⟩ (by show s.size - posN (.int .i64 (p : Int)) < s.size - posN (posV p); rw [posN_V]; simp [posN]; omega) (by rw [hc.2]; exact List.Sublist.refl _) (by kernel_rfl)
        try replace hg23 := of_decide_eq_false hg23
        iterate 2 refine qs ?_
        refine qp (K.pick_f rfl) ?_
        iterate 2 refine qm ?_
        refine qp (K.eql rfl rfl) ?_
        refine qp (K.pick_f rfl) ?_
        refine qp (K.pick_t rfl) ?_
        refine qp (K.pick_f rfl) ?_
        first | refine K.seq_pure (K.not_d rfl) rfl ?_ | refine K.seq_pure (K.not_ rfl) rfl ?_
        refine zN ?_
        refine sn ?_
        refine K.cond rfl (fun ht33 => ?_) (fun ht33 => ?_)
        · try replace ht33 := of_decide_eq_true ht33
          refine sr ?_
          refine qa ?_
          refine sn ?_
          refine K.ret ?_
          refine K.ret_block ?_
          refine K.ret_then ?_
          refine K.ret_block ?_
          refine K.ret_then ?_
          refine K.end_ret (fun w _ => K.res_tmp rfl w) ?_
          first
            | exact absurd ht33 (by decide)
            | exact K.gives_b rfl (name_f2 hnx7 (ok_f (by rcases dec_key (s := s) (p := p) with ⟨hk1, hk2, hk3⟩ | ⟨hk1, hk2⟩ <;> omega))).symm
        try replace ht33 := of_decide_eq_false ht33
        refine K.skip ?_
        refine K.norm_block ?_
        have hc : okC p (K.bt s p) = true ∧ (Utf8.decode s p).2 = 1 := by
          first
            | exact absurd ht33 (by decide)
            | (rcases dec_key (s := s) (p := p) with ⟨hk1, hk2, hk3⟩ | ⟨hk1, hk2⟩ <;> first | exact ⟨ok_t (by omega), hk1⟩ | (exfalso; omega))
        exact K.round_endW (L'' := [K.sit b6 s (p + 1)]) [.int .i64 (p : Int)] ⟨p + 1, rfl, rfl, by omega, K.lt_succ_case hall hc.1⟩ (by show s.size - posN (.int .i64 (p : Int)) < s.size - posN (posV p); rw [posN_V]; simp [posN]; omega) (by rw [hc.2]; exact List.Sublist.refl _) (by kernel_rfl)
      try replace hg20 := of_decide_eq_false hg20
      iterate 10 refine qs ?_
      refine qp (K.pick_f rfl) ?_
      refine qp (K.pick_f rfl) ?_
      first | refine K.seq_pure (K.not_d rfl) rfl ?_ | refine K.seq_pure (K.not_ rfl) rfl ?_
      refine zN ?_
      refine sn ?_
      refine K.cond rfl (fun ht33 => ?_) (fun ht33 => ?_)
      · try replace ht33 := of_decide_eq_true ht33
        refine sr ?_
        refine qa ?_
        refine sn ?_
        refine K.ret ?_
        refine K.ret_block ?_
        refine K.ret_then ?_
        refine K.ret_block ?_
        refine K.ret_then ?_
        refine K.end_ret (fun w _ => K.res_tmp rfl w) ?_
        first
          | exact absurd ht33 (by decide)
          | exact K.gives_b rfl (name_f2 hnx7 (ok_f (by rcases dec_key (s := s) (p := p) with ⟨hk1, hk2, hk3⟩ | ⟨hk1, hk2⟩ <;> omega))).symm
      try replace ht33 := of_decide_eq_false ht33
      refine K.skip ?_
      refine K.norm_block ?_
      have hc : okC p (K.bt s p) = true ∧ (Utf8.decode s p).2 = 1 := by
        first
          | exact absurd ht33 (by decide)
          | (rcases dec_key (s := s) (p := p) with ⟨hk1, hk2, hk3⟩ | ⟨hk1, hk2⟩ <;> first | exact ⟨ok_t (by omega), hk1⟩ | (exfalso; omega))
      exact K.round_endW (L'' := [K.sit b6 s (p + 1)]) [.int .i64 (p : Int)] ⟨p + 1, rfl, rfl, by omega, K.lt_succ_case hall hc.1⟩ (by show s.size - posN (.int .i64 (p : Int)) < s.size - posN (posV p); rw [posN_V]; simp [posN]; omega) (by rw [hc.2]; exact List.Sublist.refl _) (by kernel_rfl)
    try replace hg13 := of_decide_eq_false hg13
    iterate 2 refine qs ?_
    refine qp (K.pick_f rfl) ?_
    iterate 2 refine qm ?_
    refine qp (K.gtr rfl rfl) ?_
    refine qm ?_
    refine K.split 20 rfl (fun hg20 => ?_) (fun hg20 => ?_)
    · try replace hg20 := of_decide_eq_true hg20
      refine qm ?_
      refine qp (K.geq rfl rfl) ?_
      refine qm ?_
      refine K.split 23 rfl (fun hg23 => ?_) (fun hg23 => ?_)
      · try replace hg23 := of_decide_eq_true hg23
        refine qm ?_
        refine qp (K.leq rfl rfl) ?_
        refine qp (K.pick_t rfl) ?_
        refine qm ?_
        refine K.split 27 rfl (fun hg27 => ?_) (fun hg27 => ?_)
        · try replace hg27 := of_decide_eq_true hg27
          iterate 2 refine qs ?_
          refine qp (K.pick_t rfl) ?_
          refine qp (K.pick_t rfl) ?_
          refine qp (K.pick_f rfl) ?_
          first | refine K.seq_pure (K.not_d rfl) rfl ?_ | refine K.seq_pure (K.not_ rfl) rfl ?_
          refine zN ?_
          refine sn ?_
          refine K.cond rfl (fun ht33 => ?_) (fun ht33 => ?_)
          · try replace ht33 := of_decide_eq_true ht33
            refine sr ?_
            refine qa ?_
            refine sn ?_
            refine K.ret ?_
            refine K.ret_block ?_
            refine K.ret_then ?_
            refine K.ret_block ?_
            refine K.ret_then ?_
            refine K.end_ret (fun w _ => K.res_tmp rfl w) ?_
            first
              | exact absurd ht33 (by decide)
              | exact K.gives_b rfl (name_f2 hnx7 (ok_f (by rcases dec_key (s := s) (p := p) with ⟨hk1, hk2, hk3⟩ | ⟨hk1, hk2⟩ <;> omega))).symm
          try replace ht33 := of_decide_eq_false ht33
          refine K.skip ?_
          refine K.norm_block ?_
          have hc : okC p (K.bt s p) = true ∧ (Utf8.decode s p).2 = 1 := by
            first
              | exact absurd ht33 (by decide)
              | (rcases dec_key (s := s) (p := p) with ⟨hk1, hk2, hk3⟩ | ⟨hk1, hk2⟩ <;> first | exact ⟨ok_t (by omega), hk1⟩ | (exfalso; omega))
          exact K.round_endW (L'' := [K.sit b6 s (p + 1)]) [.int .i64 (p : Int)] ⟨p + 1, rfl, rfl, by omega, K.lt_succ_case hall hc.1⟩ (by show s.size - posN (.int .i64 (p : Int)) < s.size - posN (posV p); rw [posN_V]; simp [posN]; omega) (by rw [hc.2]; exact List.Sublist.refl _) (by kernel_rfl)
        try replace hg27 := of_decide_eq_false hg27
        refine qm ?_
        refine qp (K.eql rfl rfl) ?_
        refine qp (K.pick_f rfl) ?_
        refine qp (K.pick_t rfl) ?_
        refine qp (K.pick_f rfl) ?_
        first | refine K.seq_pure (K.not_d rfl) rfl ?_ | refine K.seq_pure (K.not_ rfl) rfl ?_
        refine zN ?_
        refine sn ?_
        refine K.cond rfl (fun ht33 => ?_) (fun ht33 => ?_)
        · try replace ht33 := of_decide_eq_true ht33
          refine sr ?_
          refine qa ?_
          refine sn ?_
          refine K.ret ?_
          refine K.ret_block ?_
          refine K.ret_then ?_
          refine K.ret_block ?_
          refine K.ret_then ?_
          refine K.end_ret (fun w _ => K.res_tmp rfl w) ?_
          first
            | exact absurd ht33 (by decide)
            | exact K.gives_b rfl (name_f2 hnx7 (ok_f (by rcases dec_key (s := s) (p := p) with ⟨hk1, hk2, hk3⟩ | ⟨hk1, hk2⟩ <;> omega))).symm
        try replace ht33 := of_decide_eq_false ht33
        refine K.skip ?_
        refine K.norm_block ?_
        have hc : okC p (K.bt s p) = true ∧ (Utf8.decode s p).2 = 1 := by
          first
            | exact absurd ht33 (by decide)
            | (rcases dec_key (s := s) (p := p) with ⟨hk1, hk2, hk3⟩ | ⟨hk1, hk2⟩ <;> first | exact ⟨ok_t (by omega), hk1⟩ | (exfalso; omega))
        exact K.round_endW (L'' := [K.sit b6 s (p + 1)]) [.int .i64 (p : Int)] ⟨p + 1, rfl, rfl, by omega, K.lt_succ_case hall hc.1⟩ (by show s.size - posN (.int .i64 (p : Int)) < s.size - posN (posV p); rw [posN_V]; simp [posN]; omega) (by rw [hc.2]; exact List.Sublist.refl _) (by kernel_rfl)
      try replace hg23 := of_decide_eq_false hg23
      iterate 2 refine qs ?_
      refine qp (K.pick_f rfl) ?_
      iterate 2 refine qm ?_
      refine qp (K.eql rfl rfl) ?_
      refine qp (K.pick_f rfl) ?_
      refine qp (K.pick_t rfl) ?_
      refine qp (K.pick_f rfl) ?_
      first | refine K.seq_pure (K.not_d rfl) rfl ?_ | refine K.seq_pure (K.not_ rfl) rfl ?_
      refine zN ?_
      refine sn ?_
      refine K.cond rfl (fun ht33 => ?_) (fun ht33 => ?_)
      · try replace ht33 := of_decide_eq_true ht33
        refine sr ?_
        refine qa ?_
        refine sn ?_
        refine K.ret ?_
        refine K.ret_block ?_
        refine K.ret_then ?_
        refine K.ret_block ?_
        refine K.ret_then ?_
        refine K.end_ret (fun w _ => K.res_tmp rfl w) ?_
        first
          | exact absurd ht33 (by decide)
          | exact K.gives_b rfl (name_f2 hnx7 (ok_f (by rcases dec_key (s := s) (p := p) with ⟨hk1, hk2, hk3⟩ | ⟨hk1, hk2⟩ <;> omega))).symm
      try replace ht33 := of_decide_eq_false ht33
      refine K.skip ?_
      refine K.norm_block ?_
      have hc : okC p (K.bt s p) = true ∧ (Utf8.decode s p).2 = 1 := by
        first
          | exact absurd ht33 (by decide)
          | (rcases dec_key (s := s) (p := p) with ⟨hk1, hk2, hk3⟩ | ⟨hk1, hk2⟩ <;> first | exact ⟨ok_t (by omega), hk1⟩ | (exfalso; omega))
      exact K.round_endW (L'' := [K.sit b6 s (p + 1)]) [.int .i64 (p : Int)] ⟨p + 1, rfl, rfl, by omega, K.lt_succ_case hall hc.1⟩ (by show s.size - posN (.int .i64 (p : Int)) < s.size - posN (posV p); rw [posN_V]; simp [posN]; omega) (by rw [hc.2]; exact List.Sublist.refl _) (by kernel_rfl)
    try replace hg20 := of_decide_eq_false hg20
    iterate 10 refine qs ?_
    refine qp (K.pick_f rfl) ?_
    refine qp (K.pick_f rfl) ?_
    first | refine K.seq_pure (K.not_d rfl) rfl ?_ | refine K.seq_pure (K.not_ rfl) rfl ?_
    refine zN ?_
    refine sn ?_
    refine K.cond rfl (fun ht33 => ?_) (fun ht33 => ?_)
    · try replace ht33 := of_decide_eq_true ht33
      refine sr ?_
      refine qa ?_
      refine sn ?_
      refine K.ret ?_
      refine K.ret_block ?_
      refine K.ret_then ?_
      refine K.ret_block ?_
      refine K.ret_then ?_
      refine K.end_ret (fun w _ => K.res_tmp rfl w) ?_
      first
        | exact absurd ht33 (by decide)
        | exact K.gives_b rfl (name_f2 hnx7 (ok_f (by rcases dec_key (s := s) (p := p) with ⟨hk1, hk2, hk3⟩ | ⟨hk1, hk2⟩ <;> omega))).symm
    try replace ht33 := of_decide_eq_false ht33
    refine K.skip ?_
    refine K.norm_block ?_
    have hc : okC p (K.bt s p) = true ∧ (Utf8.decode s p).2 = 1 := by
      first
        | exact absurd ht33 (by decide)
        | (rcases dec_key (s := s) (p := p) with ⟨hk1, hk2, hk3⟩ | ⟨hk1, hk2⟩ <;> first | exact ⟨ok_t (by omega), hk1⟩ | (exfalso; omega))
    exact K.round_endW (L'' := [K.sit b6 s (p + 1)]) [.int .i64 (p : Int)] ⟨p + 1, rfl, rfl, by omega, K.lt_succ_case hall hc.1⟩ (by show s.size - posN (.int .i64 (p : Int)) < s.size - posN (posV p); rw [posN_V]; simp [posN]; omega) (by rw [hc.2]; exact List.Sublist.refl _) (by kernel_rfl)
  refine K.seq_sil (K.nextS_over rfl hnx7 (K.m0)) rfl ?_
  refine zN ?_
  refine qx ?_
  refine sn ?_
  refine K.seq ?_
  refine K.cond_false rfl ?_
  refine K.exit ?_
  refine K.exit_then ?_
  refine K.exit_then ?_
  refine K.exit_here ?_
  refine K.norm_then ?_
  refine sr ?_
  refine qm ?_
  refine qp (K.Pure.eq (K.neq_s rfl rfl) (show _ = Value.bool (decide (1 ≤ s.size)) from by rw [size_ne])) ?_
  refine qm ?_
  refine K.split 36 rfl (fun hg36 => ?_) (fun hg36 => ?_)
  · try replace hg36 := of_decide_eq_true hg36
    refine qm ?_
    refine qp (K.len_s sT_9 rfl) ?_
    refine qp (K.leq rfl rfl) ?_
    refine qp (K.pick_t rfl) ?_
    refine qa ?_
    refine sn ?_
    refine K.ret ?_
    refine K.end_ret (fun w _ => K.res_tmp rfl w) ?_
    exact K.gives_b rfl (name_end hg36 hnx7 hall)
  try replace hg36 := of_decide_eq_false hg36
  iterate 3 refine qs ?_
  refine qp (K.pick_f rfl) ?_
  refine qa ?_
  refine sn ?_
  refine K.ret ?_
  refine K.end_ret (fun w _ => K.res_tmp rfl w) ?_
  exact K.gives_b rfl (name_end0 hg36)

end Go.Proofs.YtoemnobfnnjopaaDoor
