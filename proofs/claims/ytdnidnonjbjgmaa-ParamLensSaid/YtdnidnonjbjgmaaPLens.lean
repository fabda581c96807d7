/- liverylaw06.ParamLens returns true for all sets. -/
import Derived.Test.YtdnidnonjbjgmaaPLive
import Derived.Test.YtdnidnonjbjgmaaRIs
namespace Go.Proofs.Ytdnidnonjbjgmaa.Ext
set_option linter.unusedVariables false
open Go.RowKit Go.Proofs.YtdnidnonjbjgmaaW.PrintWords Go.Proofs.YtdnidnonjbjgmaaW.PrintLast Go.Proofs.Ytdnidnonjbjgmaa.Spec
attribute [local go_sem high] eqOts eqLms eqXms
set_option maxHeartbeats 8000000 in
set_option maxRecDepth 100000 in
theorem c_ParamLens (o : OtsR) (l : LmsR) (x : XmsR) (w : World) (o0 : 0 ≤ o.code) (o1 : o.code < 4294967296) (l0 : 0 ≤ l.code) (l1 : l.code < 4294967296) (x0 : 0 ≤ x.code) (x1 : x.code < 4294967296) :
    Calls Try.prog 5 #[o.enc, l.enc, x.enc] w fun e w' => e = .returned (.bool true) ∧ Below w.heap.size w w' := by
  have TcFit := fun w => c_Fit l o w l0 l1 o0 o1
  have TcOtsLen := fun w => c_OtsLen o w o0 o1
  have TcLmsLen := fun w => c_LmsLen l o w l0 l1 o0 o1
  have TcXmssLen := fun w => c_XmssLen x w x0 x1
  have TcLmsPub := fun w => c_LmsPub l w l0 l1
  have TcXmssPub := fun w => c_XmssPub x w x0 x1
  have TrFit := fun w => r_Fit l o w l0 l1 o0 o1
  have TrOtsLen := fun w => r_OtsLen o w o0 o1
  have TrLmsLen := fun w => r_LmsLen l o w l0 l1 o0 o1
  have TrXmssLen := fun w => r_XmssLen x w x0 x1
  have TrLmsPub := fun w => r_LmsPub l w l0 l1
  have TrXmssPub := fun w => r_XmssPub x w x0 x1
  have Tlive := c_live
  generalize fitS l o = zfitS at *
  generalize otsLenS o = zotsLenS at *
  generalize lmsLenS l o = zlmsLenS at *
  generalize xmsLenS x = zxmsLenS at *
  generalize lmsPubS l = zlmsPubS at *
  generalize xmsPubS x = zxmsPubS at *
  obtain ⟨b0, b1, b2, b3, b4, b5⟩ := o
  obtain ⟨a0, a1, a2, a3⟩ := l
  obtain ⟨d0, d1, d2, d3, d4⟩ := x
  simp only [OtsR.enc, LmsR.enc, XmsR.enc] at *
  have tcFit := Lib.hid TcFit; have tcOtsLen := Lib.hid TcOtsLen; have tcLmsLen := Lib.hid TcLmsLen; have tcXmssLen := Lib.hid TcXmssLen; have tcLmsPub := Lib.hid TcLmsPub; have tcXmssPub := Lib.hid TcXmssPub; have trFit := Lib.hid TrFit; have trOtsLen := Lib.hid TrOtsLen; have trLmsLen := Lib.hid TrLmsLen; have trXmssLen := Lib.hid TrXmssLen; have trLmsPub := Lib.hid TrLmsPub; have trXmssPub := Lib.hid TrXmssPub; have tlive := Lib.hid Tlive; clear TcFit TcOtsLen TcLmsLen TcXmssLen TcLmsPub TcXmssPub TrFit TrOtsLen TrLmsLen TrXmssLen TrLmsPub TrXmssPub Tlive
  go_enter Try.func5, Try.ntmps5
  go_wp2_with (fail)
  go_region_held3 (fun W => W.cell? ⟨w.heap.size, 0, none⟩ = some (.int .u32 b0) ∧ W.cell? ⟨w.heap.size, 1, none⟩ = some (.bool b1) ∧ W.cell? ⟨w.heap.size, 2, none⟩ = some (.int .i64 b2) ∧ W.cell? ⟨w.heap.size, 3, none⟩ = some (.int .i64 b3) ∧ W.cell? ⟨w.heap.size, 4, none⟩ = some (.int .i64 b4) ∧ W.cell? ⟨w.heap.size, 5, none⟩ = some (.int .i64 b5) ∧ W.cell? ⟨w.heap.size + 1, 0, none⟩ = some (.int .u32 a0) ∧ W.cell? ⟨w.heap.size + 1, 1, none⟩ = some (.bool a1) ∧ W.cell? ⟨w.heap.size + 1, 2, none⟩ = some (.int .i64 a2) ∧ W.cell? ⟨w.heap.size + 1, 3, none⟩ = some (.int .i64 a3) ∧ W.cell? ⟨w.heap.size + 1 + 1, 0, none⟩ = some (.int .u32 d0) ∧ W.cell? ⟨w.heap.size + 1 + 1, 1, none⟩ = some (.bool d1) ∧ W.cell? ⟨w.heap.size + 1 + 1, 2, none⟩ = some (.int .i64 d2) ∧ W.cell? ⟨w.heap.size + 1 + 1, 3, none⟩ = some (.int .i64 d3) ∧ W.cell? ⟨w.heap.size + 1 + 1, 4, none⟩ = some (.int .i64 d4) ∧ Aside0 (Below w.heap.size w W) ∧ w.heap.size + 2 < W.heap.size)
    (first
      | (refine ⟨by go_simp, by go_simp, by go_simp, by go_simp, by go_simp, by go_simp, by go_simp, by go_simp, by go_simp, by go_simp, by go_simp, by go_simp, by go_simp, by go_simp, by go_simp, ⟨?_⟩, ?_⟩
         · exact (((((Below.refl _ _).alloc (Nat.le_refl _) _).alloc (by simp) _).alloc (by simp; omega) _).drew)
         · simp)
      | (go_split_ands
         have hsz3 := hb3.size
         refine ⟨?_, ?_, ?_, ?_, ?_, ?_, ?_, ?_, ?_, ?_, ?_, ?_, ?_, ?_, ?_, ⟨?_⟩, ?_⟩
         · (rw [(bcell hb3).1 _ _ (by omega)]; assumption)
         · (rw [(bcell hb3).1 _ _ (by omega)]; assumption)
         · (rw [(bcell hb3).1 _ _ (by omega)]; assumption)
         · (rw [(bcell hb3).1 _ _ (by omega)]; assumption)
         · (rw [(bcell hb3).1 _ _ (by omega)]; assumption)
         · (rw [(bcell hb3).1 _ _ (by omega)]; assumption)
         · (rw [(bcell hb3).1 _ _ (by omega)]; assumption)
         · (rw [(bcell hb3).1 _ _ (by omega)]; assumption)
         · (rw [(bcell hb3).1 _ _ (by omega)]; assumption)
         · (rw [(bcell hb3).1 _ _ (by omega)]; assumption)
         · (rw [(bcell hb3).1 _ _ (by omega)]; assumption)
         · (rw [(bcell hb3).1 _ _ (by omega)]; assumption)
         · (rw [(bcell hb3).1 _ _ (by omega)]; assumption)
         · (rw [(bcell hb3).1 _ _ (by omega)]; assumption)
         · (rw [(bcell hb3).1 _ _ (by omega)]; assumption)
         · exact below_step (Aside0.out (by assumption)) hb3
         · omega))
    (first
      | (go_simp; go_at_call 18; refine (tcFit.out _).mono ?_; rintro e v3 ⟨rfl, hb3⟩)
      | (go_simp; go_at_call 20; refine (tcOtsLen.out _).mono ?_; rintro e v3 ⟨rfl, hb3⟩)
      | (go_simp; go_at_call 22; refine (tcLmsLen.out _).mono ?_; rintro e v3 ⟨rfl, hb3⟩)
      | (go_simp; go_at_call 24; refine (tcXmssLen.out _).mono ?_; rintro e v3 ⟨rfl, hb3⟩)
      | (go_simp; go_at_call 26; refine (tcLmsPub.out _).mono ?_; rintro e v3 ⟨rfl, hb3⟩)
      | (go_simp; go_at_call 28; refine (tcXmssPub.out _).mono ?_; rintro e v3 ⟨rfl, hb3⟩)
      | (go_simp; go_at_call 19; refine (trFit.out _).mono ?_; rintro e v3 ⟨rfl, hb3⟩)
      | (go_simp; go_at_call 21; refine (trOtsLen.out _).mono ?_; rintro e v3 ⟨rfl, hb3⟩)
      | (go_simp; go_at_call 23; refine (trLmsLen.out _).mono ?_; rintro e v3 ⟨rfl, hb3⟩)
      | (go_simp; go_at_call 25; refine (trXmssLen.out _).mono ?_; rintro e v3 ⟨rfl, hb3⟩)
      | (go_simp; go_at_call 27; refine (trLmsPub.out _).mono ?_; rintro e v3 ⟨rfl, hb3⟩)
      | (go_simp; go_at_call 29; refine (trXmssPub.out _).mono ?_; rintro e v3 ⟨rfl, hb3⟩)
      | (go_simp; go_at_call 9; refine (tlive.out _).mono ?_; rintro e v3 ⟨rfl, hb3⟩))
  go_wp2
  go_ret
  go_split_ands
  exact ⟨rfl, Aside0.out (by assumption)⟩
end Go.Proofs.Ytdnidnonjbjgmaa.Ext
