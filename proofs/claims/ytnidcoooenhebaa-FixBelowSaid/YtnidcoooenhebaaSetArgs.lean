/- The parameters Task and Set of this seat's laws: what a value that came in is. -/
import Derived.Test.YtnidcoooenhebaaPCx0
import Derived.Test.YtnidcoooenhebaaArgs
namespace Go.Proofs.Ytnidcoooenhebaa.Args
open Go.ChangeShapes Go.WideShapes Go.Deep Go.RowKit Go.Proofs.Ytnidcoooenhebaa.PC Go.Proofs.YtnidcoooenhebaaW.PrintWords Go.Proofs.YtnidcoooenhebaaW.PrintLast
set_option linter.unusedVariables false
section
variable {H : Type} {enc : TypeId × Value → H} {w : World}
instance : Inhabited S39 := ⟨z39⟩
def cT (x : S39) : List Value := [.string x.f0, .int .i64 x.f1, .int .i64 x.f2, .int .i64 x.f3, .int .i64 x.f4, .int .i64 x.f5, .int .i64 x.f6, .int .i64 x.f7, .int .i64 x.f8, .int .i64 x.f9, .int .i64 x.f10]
abbrev RTask (cs : List Value) (x : S39) : Prop := cs = cT x
theorem rTask : ∀ n cs y, DataW.trod enc Try.prog w 0 (fun _ => true) true n 39 cs = some y → ∃ x, RTask cs x := by
  intro n cs y h
  obtain ⟨hl, hf⟩ := open_cells Try.underlying39 (by kernel_rfl) (by kernel_rfl) h
  have hl : cs.length = 11 := hl
  have hs : ∀ (j : Nat) (f : Field), (#[] ++ (match Try.prog.underlying 39 with | some (.struct fs) => fs | _ => #[]))[j]? = some f → f.type = 9 → ∃ s, cs[j]? = some (.string s) := by
    intro j f hj ht
    rw [Try.underlying39] at hj
    obtain ⟨v, y, m, hv, hr⟩ := hf j f (by simpa using hj)
    rw [ht] at hr
    obtain ⟨s, e, _⟩ := DataW.trod_string Try.underlying9 hr
    injection e with e
    exact ⟨s, e ▸ hv⟩
  have hi : ∀ (j : Nat) (f : Field), (#[] ++ (match Try.prog.underlying 39 with | some (.struct fs) => fs | _ => #[]))[j]? = some f → f.type = 3 → ∃ s, cs[j]? = some (.int .i64 s) := by
    intro j f hj ht
    rw [Try.underlying39] at hj
    obtain ⟨v, y, m, hv, hr⟩ := hf j f (by simpa using hj)
    rw [ht] at hr
    obtain ⟨s, e, _⟩ := DataW.trod_int Try.underlying3 hr
    injection e with e
    exact ⟨s, e ▸ hv⟩
  rw [Try.underlying39] at hs hi
  obtain ⟨f0, h0⟩ := hs 0 _ rfl rfl
  obtain ⟨f1, h1⟩ := hi 1 _ rfl rfl
  obtain ⟨f2, h2⟩ := hi 2 _ rfl rfl
  obtain ⟨f3, h3⟩ := hi 3 _ rfl rfl
  obtain ⟨f4, h4⟩ := hi 4 _ rfl rfl
  obtain ⟨f5, h5⟩ := hi 5 _ rfl rfl
  obtain ⟨f6, h6⟩ := hi 6 _ rfl rfl
  obtain ⟨f7, h7⟩ := hi 7 _ rfl rfl
  obtain ⟨f8, h8⟩ := hi 8 _ rfl rfl
  obtain ⟨f9, h9⟩ := hi 9 _ rfl rfl
  obtain ⟨f10, h10⟩ := hi 10 _ rfl rfl
  clear hf hs hi h
  refine ⟨⟨f0, f1, f2, f3, f4, f5, f6, f7, f8, f9, f10⟩, ?_⟩
  match cs, hl with
  | [_, _, _, _, _, _, _, _, _, _, _], _ => simp_all [RTask, cT]
theorem task_in {W : World} {v : Value} {d : DataW H} {p : List MemPlace} {base : Nat} (ok : Value.okWide Try.prog W .any base 39 v) (h : DataW.Trod enc Try.prog W 0 (fun _ => true) true 39 v d p) :
    ∃ x : S39, v = .agg #[.string x.f0, .int .i64 x.f1, .int .i64 x.f2, .int .i64 x.f3, .int .i64 x.f4, .int .i64 x.f5, .int .i64 x.f6, .int .i64 x.f7, .int .i64 x.f8, .int .i64 x.f9, .int .i64 x.f10] := by
  obtain ⟨cs, rfl, _⟩ := okWide_struct Try.underlying39 ok
  obtain ⟨n, h⟩ := h
  obtain ⟨x, hx⟩ := rTask n _ _ h
  refine ⟨x, ?_⟩
  have hx : cs.toList = cT x := hx
  have : cs = (cT x).toArray := by rw [← hx]
  rw [this]; rfl
theorem tasks_C {A : Option Addr} {l : List S39} (hm : l.length ≤ maxLen) (h : ArgN RTask 11 w A l) : Kd.C k39 w A l.length l := by
  unfold maxLen at hm
  refine ⟨rfl, by omega, fun hp => ?_⟩
  obtain ⟨b, off, h1, h2, h3⟩ := h hp
  refine ⟨_, h1, fun j p hj => ?_⟩
  obtain ⟨c, hc, hr, hat⟩ := h3 j p hj
  refine ⟨c, hc, by rw [show c = cT p from hr]; exact k39_mk w p, fun i u hu => ?_⟩
  have := hat i u hu
  rwa [Go.WideShapes.add_plain, ← Nat.add_assoc]
theorem bools_C {A : Option Addr} {l : List Bool} (hm : l.length ≤ maxLen) (h : Arg Value.bool w A l) : Kd.C Kd.bool w A l.length l := by
  unfold maxLen at hm
  refine ⟨rfl, by omega, fun hp => ?_⟩
  obtain ⟨b, off, h1, h2, h3⟩ := h hp
  refine ⟨_, h1, fun j p hj => ⟨[.bool p], rfl, rfl, fun i u hu => ?_⟩⟩
  have hat := h3 j p hj
  cases i with
  | zero =>
    obtain rfl := Option.some.inj hu
    rw [Go.WideShapes.add_plain]
    simpa [Kd.bool, Kd.scalar] using hat
  | succ i => simp at hu
theorem set_in {W : World} {v : Value} {d : DataW H} {p : List MemPlace} {base : Nat} (ok : Value.okWide Try.prog W .any base 24 v) (h : DataW.Trod enc Try.prog W 0 (fun _ => true) true 24 v d p) :
    ∃ (B : Int) (A : Option Addr) (l : List S39) (cap : Nat), v = .agg #[.int .i64 B, .slice A l.length cap] ∧ l.length ≤ cap ∧ Kd.C k39 W A l.length l := by
  obtain ⟨cs, rfl, _⟩ := okWide_struct Try.underlying24 ok
  obtain ⟨n, h⟩ := h
  have h : DataW.trod enc Try.prog W 0 (fun _ => true) true n 24 cs.toList = some (d, p) := h
  obtain ⟨hl, hf⟩ := open_cells Try.underlying24 (by kernel_rfl) (by kernel_rfl) h
  obtain ⟨v0, y0, m0, h0, r0⟩ := hf 0 _ rfl
  obtain ⟨v1, y1, m1, h1, r1⟩ := hf 1 _ rfl
  obtain ⟨B, e, _⟩ := DataW.trod_int Try.underlying3 r0
  injection e with e
  subst e
  have hv : ∃ A len cap, v1 = .slice A len cap := by
    rcases open_slice Try.underlying22 r1 with ⟨hcs, _⟩ | ⟨a, len', cap', m, n, D, Pl, hcs, _⟩
    · injection hcs with hcs; exact ⟨_, _, _, hcs⟩
    · injection hcs with hcs; exact ⟨_, _, _, hcs⟩
  obtain ⟨A, len, cap, rfl⟩ := hv
  obtain ⟨l, rfl, hlc, hcm, ha⟩ := open_arg (R := RTask) Try.underlying22 (by kernel_rfl : Try.prog.cellsOf 39 = 11) (by omega) rTask r1
  refine ⟨B, A, l, cap, ?_, hlc, tasks_C (by omega) ha⟩
  have hl : cs.toList.length = 2 := hl
  have : cs.toList = [.int .i64 B, .slice A l.length cap] := by
    match cs.toList, hl, h0, h1 with
    | [_, _], _, h0, h1 => simp_all
  have e2 : cs = ([.int .i64 B, .slice A l.length cap] : List Value).toArray := by rw [← this]
  rw [e2]
end
end Go.Proofs.Ytnidcoooenhebaa.Args
