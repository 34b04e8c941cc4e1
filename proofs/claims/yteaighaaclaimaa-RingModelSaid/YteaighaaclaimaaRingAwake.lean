import Derived.Test.YteaighaaclaimaaRingInt
import Derived.Test.YteaighaaclaimaaRingStr
namespace Go.Proofs.Yteaighaaclaimaa.Ring
open Go.RowKit Go.Proofs.YteaighaaclaimaaW.PrintWords Go.Proofs.YteaighaaclaimaaW.PrintLast Go.Proofs.YteaighaaclaimaaW.PrintMore
theorem awake_any (w : World) : Calls Try.prog 8 #[] w fun e w' => e = .returned (.bool true) ∧ Below w.heap.size w w' := by
  go_enter Try.func8, Try.ntmps8
  go_wp2_with fail
  refine (new_int _ 1 (by omega) (by omega)).mono ?_; rintro e w1 ⟨p, g, rfl, hr, hp, hg, hb⟩
  have hr := Lib.hid hr
  have hb := Lib.hid hb
  go_wp2_with fail
  refine (new_no_str _ 0 (by omega)).mono ?_; rintro e w2 ⟨rfl, n2, rfl⟩
  go_wp2_with fail
  refine (put_room_int (w := w1.drewN n2) (cs := [0]) hr.out 5 (by simp) (by simp) (by simp) (by simp) 0 rfl).mono ?_; rintro e w3 ⟨rfl, h3⟩
  have h3 := Lib.hid h3
  go_wp2_with fail
  refine (put_full_int (w := w3) (cs := [5]) h3.out.1 6 rfl).mono ?_; rintro e w4 ⟨rfl, n4, rfl⟩
  go_wp2_with fail
  refine (push_full_int (w := w3.drewN n4) (cs := [5]) h3.out.1 7 (by simp) (by simp) (by simp) rfl).mono ?_; rintro e w5 ⟨rfl, h5⟩
  have h5 := Lib.hid h5
  go_wp2_with fail
  refine (take_some_int (w := w5) (cs := [7]) h5.out.1 (by simp) (by simp) (by simp) (by omega) (by simp) 7 rfl).mono ?_; rintro e w6 ⟨rfl, h6⟩
  have h6 := Lib.hid h6
  go_wp2_with fail
  refine (len_int (w := w6) h6.out.1).mono ?_; rintro e w7 ⟨rfl, n7, rfl⟩
  go_wp2
  go_ret
  have b1 := hb.out
  have b2 := b1.trans (pw_below_drewN (Below.refl _ _) n2)
  have b3 := b2.trans (h3.out.2.2 _ hp hg)
  have b4 := b3.trans (pw_below_drewN (Below.refl _ _) n4)
  have b5 := b4.trans (h5.out.2.2 _ hp hg)
  have b6 := b5.trans (h6.out.2.2 _ hp hg)
  exact ⟨rfl, b6.trans (pw_below_drewN (Below.refl _ _) n7)⟩
end Go.Proofs.Yteaighaaclaimaa.Ring
