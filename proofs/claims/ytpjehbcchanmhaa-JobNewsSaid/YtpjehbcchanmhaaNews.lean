/- The law JobNews, walked. -/
import Derived.Test.YtpjehbcchanmhaaNb
import Derived.Test.YtpjehbcchanmhaaNc
namespace Go.Proofs.Ytpjehbcchanmhaa.PS
open Go.RowKit Go.Proofs.Ytpjehbcchanmhaa.PC Go.Proofs.YtpjehbcchanmhaaW.PrintWords Go.Proofs.YtpjehbcchanmhaaW.PrintLast Go.Proofs.YtpjehbcchanmhaaW.PrintMore
set_option linter.unusedVariables false
set_option linter.unusedSimpArgs false
theorem news_main (w : World) (B : Int) (A : Option Addr) (l : List S28) (cap : Nat) (hc : l.length ≤ cap) (hC : Kd.C k28 w A l.length l) (i no rel d : Int) (must : Bool) (hf : Ev (fun k => pendulumref05_Few.f k B l) true) (hr : Ev (fun k => pendulumref05_Right.f k B l) true) (ok : OkS B l) : Calls Try.prog 3 #[.agg #[.int .i64 B, .slice A l.length cap], .int .i64 i, .int .i64 no, .int .i64 rel, .int .i64 d, .bool must] w fun e w' => e = .returned (.bool true) ∧ Below w.heap.size w w' := by
  obtain ⟨ad, rfl, _⟩ := row_at hC (i := 0) (Int.le_refl 0) (by have := ok.2.2.1; omega)
  by_cases k0 : i < 0
  · exact news_bad0 w B ad l cap hc hC i no rel d must  k0 hf hr ok
  by_cases k1 : (l.length : Int) ≤ i
  · exact news_bad1 w B ad l cap hc hC i no rel d must k0 k1 hf hr ok
  by_cases k2 : no < 0
  · exact news_bad2 w B ad l cap hc hC i no rel d must k0 k1 k2 hf hr ok
  by_cases k3 : rel < 0
  · exact news_bad3 w B ad l cap hc hC i no rel d must k0 k1 k2 k3 hf hr ok
  by_cases k4 : (1099511627776 : Int) < rel
  · exact news_bad4 w B ad l cap hc hC i no rel d must k0 k1 k2 k3 k4 hf hr ok
  obtain ⟨C, hCe⟩ : ∃ C, (rd_T28 l i).f3 = C := ⟨_, rfl⟩
  by_cases hd : d < 1
  · cases must with
    | true => exact news_one_true w B ad l cap hc hC i no rel d C (by omega) (by omega) (by omega) (by omega) (by omega) hCe hd hf hr ok
    | false => exact news_one_false w B ad l cap hc hC i no rel d C (by omega) (by omega) (by omega) (by omega) (by omega) hCe hd hf hr ok
  by_cases hd2 : C < d
  · cases must with
    | true => exact news_top_true w B ad l cap hc hC i no rel d C (by omega) (by omega) (by omega) (by omega) (by omega) hCe hd hd2 hf hr ok
    | false => exact news_top_false w B ad l cap hc hC i no rel d C (by omega) (by omega) (by omega) (by omega) (by omega) hCe hd hd2 hf hr ok
  · cases must with
    | true => exact news_mid_true w B ad l cap hc hC i no rel d C (by omega) (by omega) (by omega) (by omega) (by omega) hCe hd hd2 hf hr ok
    | false => exact news_mid_false w B ad l cap hc hC i no rel d C (by omega) (by omega) (by omega) (by omega) (by omega) hCe hd hd2 hf hr ok
theorem news_walk (w : World) (B : Int) (A : Option Addr) (l : List S28) (cap : Nat) (hc : l.length ≤ cap) (hC : Kd.C k28 w A l.length l) (i no rel d : Int) (must : Bool) : Calls Try.prog 3 #[.agg #[.int .i64 B, .slice A l.length cap], .int .i64 i, .int .i64 no, .int .i64 rel, .int .i64 d, .bool must] w fun e w' => e = .returned (.bool true) ∧ Below w.heap.size w w' := by
  obtain ⟨b, hf, pf⟩ := few_tot B l
  cases b with
  | false => exact news_few w B A l cap hc hC i no rel d must hf
  | true =>
    obtain ⟨b, hr, pr⟩ := right_tot B l
    cases b with
    | false => exact news_right w B A l cap hc hC i no rel d must hf hr
    | true => exact news_main w B A l cap hc hC i no rel d must hf hr (pr rfl)
theorem news_row (w : World) (B : Int) (A : Option Addr) (l : List S28) (cap : Nat) (hc : l.length ≤ cap) (hC : Kd.C k28 w A l.length l) (i : Int) (_ : (Lit.int .i64 i).wf = true) (no : Int) (_ : (Lit.int .i64 no).wf = true) (rel : Int) (_ : (Lit.int .i64 rel).wf = true) (d : Int) (_ : (Lit.int .i64 d).wf = true) (must : Bool) : Calls Try.prog 3 #[.agg #[.int .i64 B, .slice A l.length cap], .int .i64 i, .int .i64 no, .int .i64 rel, .int .i64 d, .bool must] w fun e w' => e = .returned (.bool true) ∧ Below w.heap.size w w' :=
  news_walk w B A l cap hc hC i no rel d must
end Go.Proofs.Ytpjehbcchanmhaa.PS
