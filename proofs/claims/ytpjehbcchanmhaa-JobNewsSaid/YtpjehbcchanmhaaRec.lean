/- A run, tick by tick: what recover's functions compute of a right task. -/
import Derived.Test.YtpjehbcchanmhaaDem
import Derived.Test.YtpjehbcchanmhaaPCs
import Derived.Test.YtpjehbcchanmhaaPCf
namespace Go.Proofs.Ytpjehbcchanmhaa.PS
open Go.RowKit Go.Proofs.Ytpjehbcchanmhaa.PC Go.Proofs.YtpjehbcchanmhaaW.PrintWords Go.Proofs.YtpjehbcchanmhaaW.PrintLast
set_option linter.unusedVariables false
/-- A run's state. -/
structure St where
  p : Nat
  left : Int
  str : Bool
  fl : Int
/-- A tick: the next state, the event. -/
def nx (t : S28) (d : Int) (s : St) (hit : Bool) : St × Int :=
  if s.left - 1 > 0 then (⟨s.p, s.left - 1, s.str || hit, s.fl⟩, 0)
  else if (s.str || hit) = true then
    if t.f9 = 1 then (⟨s.p, rd (pt t d) s.p, false, s.fl + 1⟩, 2) else (⟨1, t.f4 + t.f6, false, s.fl + 1⟩, if t.f9 = 3 ∧ s.p ≠ 1 then 3 else 2)
  else if t.f9 = 1 ∧ s.p + 1 < (pt t d).length then (⟨s.p + 1, rd (pt t d) (s.p + 1 : Nat), false, s.fl⟩, 1)
  else (⟨s.p, s.left - 1, false, s.fl⟩, 4)
/-- How many ticks it takes yet. -/
def rem (t : S28) (d : Int) (s : St) : Int := if t.f9 = 1 then s.left + su ((pt t d).drop (s.p + 1)) else s.left
def Inv (t : S28) (d : Int) (s : St) : Prop := (t.f9 = 1 → s.p < (pt t d).length ∧ s.left ≤ rd (pt t d) s.p) ∧ (¬ t.f9 = 1 → s.p ≤ 1 ∧ s.left ≤ su (pt t d) + ex t) ∧ 1 ≤ s.left
theorem rd_eq {l : List Int} {i : Nat} (h : i < l.length) : rd l (i : Int) = l[i] := by
  simp [rd, List.getD_eq_getElem?_getD, h]
theorem rd_mem {l : List Int} {i : Nat} (h : i < l.length) : rd l (i : Int) ∈ l := by rw [rd_eq h]; exact List.getElem_mem h
theorem su_drop {l : List Int} {i : Nat} (h : i < l.length) : su (l.drop i) = rd l (i : Int) + su (l.drop (i + 1)) := by
  rw [List.drop_eq_getElem_cons h, rd_eq h]; rfl
theorem su_drop_le {l : List Int} (hp : ∀ x ∈ l, 0 ≤ x) : ∀ (i : Nat), su (l.drop i) ≤ su l := by
  intro i
  induction i with
  | zero => simp
  | succ i ih =>
    by_cases h : i < l.length
    · have := su_drop h
      have := hp _ (rd_mem h)
      omega
    · rw [List.drop_eq_nil_of_le (by omega)]
      exact su_nonneg hp
theorem su_drop_mono {l : List Int} (hp : ∀ x ∈ l, 0 ≤ x) : ∀ (i j : Nat), i ≤ j → su (l.drop j) ≤ su (l.drop i) := by
  intro i j h
  obtain ⟨m, rfl⟩ : ∃ m, j = i + m := ⟨j - i, by omega⟩
  rw [← List.drop_drop]
  exact su_drop_le (fun x hx => hp x (List.mem_of_mem_drop hx)) m
section
variable {t : S28} (ok : OkT t) {d : Int} (h1 : 1 ≤ d) (h2 : d ≤ t.f3)
include ok h1 in
theorem pt_nonneg : ∀ x ∈ pt t d, 0 ≤ x := fun x hx => by have := (pt_mem ok d h1 x hx).1; omega
include ok in
theorem ex_bd : 1 ≤ ex t ∧ ex t ≤ 1049576 := by
  have hn := ok.nums
  unfold ex
  by_cases c : t.f9 = 1
  · have := ok.seg c; rw [if_pos c]; omega
  · have := ok.alt c; rw [if_neg c]; omega
include ok h1 h2 in
theorem su_bd : 1 ≤ su (pt t d) ∧ su (pt t d) ≤ 1049624576 := by
  have h3 := pt_mono ok h1 h2
  rw [pt_whole ok] at h3
  have := wh_bd ok
  omega
include ok h1 in
theorem rem_bd {s : St} (I : Inv t d s) : 1 ≤ rem t d s ∧ rem t d s ≤ su (pt t d) + ex t := by
  have he := ex_bd ok
  obtain ⟨I1, I2, I3⟩ := I
  unfold rem
  by_cases c : t.f9 = 1
  · rw [if_pos c]
    obtain ⟨a, b⟩ := I1 c
    have e := su_drop a
    have f := su_drop_le (pt_nonneg ok h1) s.p
    have g := su_nonneg (l := (pt t d).drop (s.p + 1)) (fun x hx => pt_nonneg ok h1 x (List.mem_of_mem_drop hx))
    omega
  · rw [if_neg c]
    have := I2 c
    omega
include ok h1 in
theorem rd_bd {i : Nat} (h : i < (pt t d).length) (c : t.f9 = 1) : 1 ≤ rd (pt t d) i ∧ rd (pt t d) i ≤ ex t := by
  have := pt_mem ok d h1 _ (rd_mem h)
  exact ⟨this.1, this.2 c⟩
/-- What a tick does to the state. -/
inductive Tick (t : S28) (d : Int) (s : St) (hit : Bool) : St × Int → Prop where
  | runs (u : St) : 1 < s.left → Inv t d u → u.p = s.p → u.left = s.left - 1 → rem t d u = rem t d s - 1 → u.str = (s.str || hit) → u.fl = s.fl → Tick t d s hit (u, 0)
  | passed (u : St) : s.left = 1 → t.f9 = 1 → (s.str || hit) = false → Inv t d u → u.p = s.p + 1 → u.p < (pt t d).length → u.left = rd (pt t d) u.p → rem t d u = rem t d s - 1 → u.str = false → u.fl = s.fl → Tick t d s hit (u, 1)
  | failed (u : St) (e : Int) : s.left = 1 → (e = 2 ∨ e = 3) → (s.str || hit) = true → Inv t d u → (t.f9 = 1 → u.p = s.p ∧ rem t d u = rem t d s - 1 + rd (pt t d) s.p) → (¬ t.f9 = 1 → u.p = 1 ∧ rem t d u = rem t d s - 1 + (t.f4 + t.f6)) → rem t d u ≤ rem t d s - 1 + ex t → u.str = false → u.fl = s.fl + 1 → Tick t d s hit (u, e)
  | done (u : St) : s.left = 1 → (s.str || hit) = false → (t.f9 = 1 → s.p + 1 = (pt t d).length) → rem t d s = 1 → u.left = 0 → u.str = false → u.fl = s.fl → u.p = s.p → Tick t d s hit (u, 4)
include ok h1 h2 in
theorem nx_tick {s : St} (I : Inv t d s) (hit : Bool) : Tick t d s hit (nx t d s hit) := by
  have hn := ok.nums
  have he := ex_bd ok
  have hs := su_bd ok h1 h2
  obtain ⟨I1, I2, I3⟩ := I
  unfold nx
  by_cases c1 : s.left - 1 > 0
  · rw [if_pos c1]
    refine .runs _ (by omega) ⟨fun c => ⟨(I1 c).1, by have := (I1 c).2; simp only; omega⟩, fun c => ⟨(I2 c).1, by have := (I2 c).2; simp only; omega⟩, by simp only; omega⟩ rfl rfl ?_ rfl rfl
    unfold rem
    by_cases c : t.f9 = 1
    · simp only [if_pos c]; omega
    · simp only [if_neg c]
  · rw [if_neg c1]
    by_cases c2 : (s.str || hit) = true
    · rw [if_pos c2]
      by_cases c : t.f9 = 1
      · rw [if_pos c]
        have hr := rd_bd ok h1 (I1 c).1 c
        refine .failed _ _ (by omega) (.inl rfl) c2 ⟨fun _ => ⟨(I1 c).1, by simp⟩, fun k => absurd c k, by simp only; omega⟩ (fun _ => ⟨rfl, ?_⟩) (fun k => absurd c k) ?_ rfl rfl
        · unfold rem; simp only [if_pos c]; omega
        · unfold rem; simp only [if_pos c]; omega
      · rw [if_neg c]
        have ha := ok.alt c
        have hex : ex t = t.f4 + t.f6 := by unfold ex; rw [if_neg c]
        refine .failed _ _ (by omega) (by split <;> simp) c2 ⟨fun k => absurd k c, fun _ => ⟨Nat.le_refl _, by simp only; omega⟩, by simp only; omega⟩ (fun k => absurd k c) (fun _ => ⟨rfl, ?_⟩) ?_ rfl rfl
        · unfold rem; simp only [if_neg c]; omega
        · unfold rem; simp only [if_neg c]; omega
    · rw [if_neg c2]
      by_cases c3 : t.f9 = 1 ∧ s.p + 1 < (pt t d).length
      · rw [if_pos c3]
        have hr := rd_bd ok h1 c3.2 c3.1
        refine .passed _ (by omega) c3.1 (by simpa using c2) ⟨fun _ => ⟨c3.2, by simp⟩, fun k => absurd c3.1 k, by simp only; omega⟩ rfl c3.2 rfl ?_ rfl rfl
        have := su_drop c3.2
        unfold rem; simp only [if_pos c3.1]; omega
      · rw [if_neg c3]
        have hp : t.f9 = 1 → s.p + 1 = (pt t d).length := fun c => by have := (I1 c).1; have : ¬ s.p + 1 < (pt t d).length := fun k => c3 ⟨c, k⟩; omega
        refine .done _ (by omega) (by simpa using c2) hp ?_ (by simp only; omega) rfl rfl rfl
        unfold rem
        by_cases c : t.f9 = 1
        · rw [if_pos c, hp c, List.drop_eq_nil_of_le (Nat.le_refl _)]; simp only [su]; omega
        · rw [if_neg c]; omega
def tup (t : S28) (d : Int) (s : St) (e : Int) : ByteArray × Int × Int × Int × Int × Int × Int × Int × Int × Int × Int × Int × Int × Int × Bool × Int × Int := (t.f0, t.f1, t.f2, t.f3, t.f4, t.f5, t.f6, t.f7, t.f8, t.f9, t.f10, d, (s.p : Int), s.left, s.str, s.fl, e)
include ok h1 h2 in
theorem failed_ev {p : Nat} {left : Int} {fl : Int} {str : Bool} (hp : t.f9 = 1 → p < (pt t d).length) (hf : -1000000000000 ≤ fl) (hf2 : fl ≤ 1000000000000) :
    Ev (fun k => recover_failed.f k t.f0 t.f1 t.f2 t.f3 t.f4 t.f5 t.f6 t.f7 t.f8 t.f9 t.f10 d (p : Int) left str fl) (if t.f9 = 1 then tup t d ⟨p, rd (pt t d) p, false, fl + 1⟩ 2 else tup t d ⟨1, t.f4 + t.f6, false, fl + 1⟩ (if t.f9 = 3 ∧ p ≠ 1 then 3 else 2)) := by
  have hn := ok.nums
  unfold recover_failed.f
  rw [w64 (x := fl + 1) (by omega) (by omega)]
  by_cases c : t.f9 = 1
  · simp only [if_pos c]
    refine Ev.bind (parts_ev ok d h1 h2) ?_
    have := hp c
    simp only [if_pos (show (0 : Int) ≤ (p : Int) by omega), if_pos (show (p : Int) < ((pt t d).length : Int) by omega)]
    exact Ev.now _
  · have ha := ok.alt c
    simp only [if_neg c, w64 (x := t.f4 + t.f6) (by omega) (by omega)]
    by_cases c3 : t.f9 = 3
    · by_cases c4 : p = 1
      · simp only [if_pos c3, c4, Int.natCast_one, if_true, show ¬ (t.f9 = 3 ∧ (1 : Nat) ≠ 1) by simp, if_false]; exact Ev.now _
      · simp only [if_pos c3, if_neg (show ¬ (p : Int) = 1 by omega), if_pos (show t.f9 = 3 ∧ p ≠ 1 from ⟨c3, c4⟩)]; exact Ev.now _
    · simp only [if_neg c3, if_neg (show ¬ (t.f9 = 3 ∧ p ≠ 1) from fun k => c3 k.1)]; exact Ev.now _
include ok h1 h2 in
theorem step_ev {s : St} (I : Inv t d s) (hit : Bool) (hf : 0 ≤ s.fl) (hf2 : s.fl ≤ 1000000000000) :
    Ev (fun k => recover_Step.f k t.f0 t.f1 t.f2 t.f3 t.f4 t.f5 t.f6 t.f7 t.f8 t.f9 t.f10 d (s.p : Int) s.left s.str s.fl hit) (tup t d (nx t d s hit).1 (nx t d s hit).2) := by
  have hn := ok.nums
  have he := ex_bd ok
  have hs := su_bd ok h1 h2
  have hlen := pt_len ok d h1 h2
  have hlb : s.left ≤ 10000000000 := by
    by_cases c : t.f9 = 1
    · have := I.1 c; have := rd_bd ok h1 this.1 c; omega
    · have := I.2.1 c; omega
  have hl1 := I.2.2
  have hj : Ev (fun k => recover_Step.j0 k t.f0 t.f1 t.f2 t.f3 t.f4 t.f5 t.f6 t.f7 t.f8 t.f9 t.f10 d (s.p : Int) (s.left - 1) (s.str || hit) s.fl) (tup t d (nx t d s hit).1 (nx t d s hit).2) := by
    unfold nx
    by_cases c1 : s.left - 1 > 0
    · rw [if_pos c1]
      refine Ev.step (f := fun _ => some _) (fun k => ?_) (Ev.now _)
      simp only [recover_Step.j0]
      rw [if_pos c1]; rfl
    · rw [if_neg c1]
      by_cases c2 : (s.str || hit) = true
      · rw [if_pos c2]
        have hF := failed_ev ok h1 h2 (p := s.p) (left := s.left - 1) (fl := s.fl) (str := (s.str || hit)) (fun c => (I.1 c).1) (by omega) (by omega)
        refine Ev.step (f := fun k => (recover_failed.f k t.f0 t.f1 t.f2 t.f3 t.f4 t.f5 t.f6 t.f7 t.f8 t.f9 t.f10 d (s.p : Int) (s.left - 1) (s.str || hit) s.fl).bind fun b => some b) (fun k => ?_) ?_
        · simp only [recover_Step.j0]
          rw [if_neg c1, if_pos c2]
        · refine Ev.bind hF ?_
          by_cases c : t.f9 = 1
          · simp only [if_pos c]; exact Ev.now _
          · simp only [if_neg c]; exact Ev.now _
      · rw [if_neg c2]
        have c2' : (s.str || hit) = false := by simpa using c2
        refine Ev.step (f := fun k => (demand_Parts.f k t.f0 t.f1 t.f2 t.f3 t.f4 t.f5 t.f6 t.f7 t.f8 t.f9 t.f10 d).bind _) (fun k => by simp only [recover_Step.j0]; rw [if_neg c1, if_neg c2]) ?_
        refine Ev.bind (parts_ev ok d h1 h2) ?_
        rw [c2']
        by_cases c : t.f9 = 1
        · have hp := (I.1 c).1
          rw [if_pos c, w64 (x := ((pt t d).length : Int) - 1) (by omega) (by omega), w1 (n := s.p) (by omega)]
          by_cases c3 : s.p + 1 < (pt t d).length
          · rw [if_pos (show t.f9 = 1 ∧ s.p + 1 < (pt t d).length from ⟨c, c3⟩), if_neg (show ¬ (s.p : Int) = ((pt t d).length : Int) - 1 by omega), if_pos (by omega), if_pos (by omega)]
            exact Ev.now _
          · rw [if_neg (show ¬ (t.f9 = 1 ∧ s.p + 1 < (pt t d).length) from fun k => c3 k.2), if_pos (show (s.p : Int) = ((pt t d).length : Int) - 1 by omega)]
            exact Ev.now _
        · rw [if_neg c, if_neg (show ¬ (t.f9 = 1 ∧ s.p + 1 < (pt t d).length) from fun k => c k.1)]
          exact Ev.now _
  unfold recover_Step.f
  rw [w64 (x := s.left - 1) (by omega) (by omega)]
  cases hb : s.str with
  | true => rw [hb] at hj; simpa using hj
  | false => rw [hb] at hj; simpa using hj
end
end Go.Proofs.Ytpjehbcchanmhaa.PS
