import Derived.Test.YtmmbpbgcobmifaaGreatDoorZOutletWholesP5
import Derived.Test.YtmmbpbgcobmifaaGreatDoorZOutletWholesP1
import Derived.Tactics2
import Derived.Defers
import Derived.Recover
namespace Go.Proofs.YtmmbpbgcobmifaaGreatDoorW.PrintWords
end Go.Proofs.YtmmbpbgcobmifaaGreatDoorW.PrintWords
namespace Go.Proofs.YtmmbpbgcobmifaaGreatDoorW.PrintLast
end Go.Proofs.YtmmbpbgcobmifaaGreatDoorW.PrintLast
namespace Go.Proofs.YtmmbpbgcobmifaaGreatDoorW.PrintMore
end Go.Proofs.YtmmbpbgcobmifaaGreatDoorW.PrintMore
namespace Go.Proofs.YtmmbpbgcobmifaaGreatDoor.Pr
end Go.Proofs.YtmmbpbgcobmifaaGreatDoor.Pr
section
namespace Go.Proofs.YtmmbpbgcobmifaaGreatDoor.Pr
end Go.Proofs.YtmmbpbgcobmifaaGreatDoor.Pr
namespace Go.Proofs.YtmmbpbgcobmifaaGreatDoorH
open Go.RowKit Go.Proofs.YtmmbpbgcobmifaaGreatDoorW.PrintWords Go.Proofs.YtmmbpbgcobmifaaGreatDoorW.PrintLast Go.Proofs.YtmmbpbgcobmifaaGreatDoorW.PrintMore Go.Proofs.YtmmbpbgcobmifaaGreatDoor.Pr
theorem byteL_getD {s : List Int} (h : ByteL s) {a : Nat} (ha : a < s.length) : 0 ≤ s.getD a 0 ∧ s.getD a 0 ≤ 255 := by
  rw [List.getD_eq_getElem?_getD, List.getElem?_eq_getElem ha]
  exact h _ (List.getElem_mem ha)
set_option maxHeartbeats 8000000 in
set_option maxRecDepth 100000 in
theorem size_does (b : Nat) (A : Option Addr) (c : Nat) (e0 e1 e2 : Int) (a0 : Nat) (dv : Value) (s : List Int) (w : World) (h : IsR w b A s.length c e0 e1 e2 a0 dv) (hC : Keeps b w fun W => Kd.C (Kd.int .u8) W A s.length s ∧ TabOk W) (hs : ByteL s) (hl : s.length ≤ 1073741824) (ha0 : a0 ≤ s.length) :
    Calls Tryz.prog 47 #[.pointer (some ⟨b, 0, none⟩)] w (Does w b A s.length c e0 e1 e2 dv (fun n : Nat => .int .u64 (n : Int)) (sizeM s a0)) := by
  have HK := Aside0.mk hC
  have HS := Aside0.mk hs
  have HI := Aside0.mk h
  clear hC hs h
  go_enter Tryz.func47, Tryz.ntmps47
  go_wp2_with fail
  go_loopw [3, 4] (fun u3 u4 wr => ∃ f a n g : Nat, u3 = .int .u64 (n : Int) ∧ u4 = .int .i64 (g : Int) ∧ s.length - a < f ∧ a ≤ s.length ∧ g ≤ 16 ∧ n ≤ 4611686018427387903 ∧ Aside0 (sizeL f s a n g = sizeM s a0) ∧ Aside0 (IsR wr b A s.length c e0 e1 e2 a dv) ∧ Aside0 (Only b w wr)) (fun _ u4 _ => 16 - (intOf u4).toNat)
  case atStart => exact ⟨s.length - a0 + 1, a0, 0, 0, rfl, rfl, by omega, ha0, by omega, by omega, ⟨rfl⟩, HI, ⟨Only.refl _ _⟩⟩
  case round =>
    obtain ⟨f, a, n, g, rfl, rfl, hf, ha, hg, hn, he, hi, ho⟩ := hrel
    obtain ⟨f, rfl⟩ : ∃ m, f = m + 1 := ⟨f - 1, by omega⟩
    by_cases hlt : a < s.length
    · have hby := byteL_getD HS.out hlt
      have hdg := digit_eq hby.1 hby.2
      have hh := here_on b A _ c e0 e1 e2 a dv s wr hi.out (HK.out wr ho.out.1).1 hlt
      have HE := Aside0.mk he.out
      rw [sizeL, if_pos hlt] at HE
      have HH := Aside0.mk (fun w2 (hd : Drawn0 wr w2) => here_on b A _ c e0 e1 e2 a dv s w2 (hi.out.below hd.below) (HK.out w2 (ho.out.trans (Only.drawn hd (Nat.le_of_lt hi.out.lt))).1).1 hlt)
      have HDG := Aside0.mk (fun w2 (hd : Drawn0 wr w2) => hexa_Digit.calls 5 (s.getD a 0) _ w2 (HK.out w2 (ho.out.trans (Only.drawn hd (Nat.le_of_lt hi.out.lt))).1).2 hdg.1)
      have hdr := hdg.2
      clear hdg he
      generalize hx : s.getD a 0 = x at *
      by_cases hneg : digI x < 0
      · have hneg' : ¬ (0 : Int) ≤ digI x := by omega
        rw [if_pos hneg] at HE
        go_wp2_with fail
        refine hh.mono ?_
        rintro e w2 ⟨rfl, hd⟩
        have HD := Aside0.mk hd
        have h2 := HDG.out w2 hd
        clear hh hd
        go_wp2_with fail
        refine h2.mono ?_
        rintro e w3 ⟨rfl, hd3⟩
        have hdr3 : Drawn0 wr w3 := by
          obtain ⟨k, rfl⟩ := hd3.out
          exact HD.out.step k
        have HI3 := Aside0.mk (hi.out.below hdr3.below)
        have HO3 := Aside0.mk (ho.out.trans (Only.drawn hdr3 (Nat.le_of_lt hi.out.lt)))
        clear h2 hd3 hdr3
        by_cases hg0 : 0 < g
        · have hg0' : (0 : Int) < (g : Int) := by omega
          rw [if_pos hg0] at HE
          go_wp2_with fail
          refine (must_on b 2 w3).mono ?_
          rintro e w4 ⟨rfl, rfl⟩
          go_wp2
          go_ret
          show Does w b A s.length c e0 e1 e2 dv (fun n : Nat => Value.int .u64 (n : Int)) (sizeM s a0) _ _
          rw [← HE.out]
          exact ⟨rfl, HI3.out, HO3.out⟩
        · have hg0' : ¬ (0 : Int) < (g : Int) := by omega
          have hg0'' : decide ((0 : Int) < (g : Int)) = false := decide_eq_false hg0'
          rw [if_neg hg0] at HE
          go_wp2_with fail
          refine (must_off b a 2 w3 HI3.out.c4).mono ?_
          rintro e w4 ⟨rfl, rfl⟩
          refine ⟨rfl, ?_⟩
          show Does w b A s.length c e0 e1 e2 dv (fun n : Nat => Value.int .u64 (n : Int)) (sizeM s a0) _ _
          rw [← HE.out]
          exact ⟨rfl, HI3.out, HO3.out⟩
      · have hneg' : (0 : Int) ≤ digI x := by omega
        rw [if_neg hneg] at HE
        have hmore := more_eq n hby.1 hby.2 hneg' hn
        go_wp2_with fail
        refine hh.mono ?_
        rintro e w2 ⟨rfl, hd⟩
        have HD := Aside0.mk hd
        have h2 := HDG.out w2 hd
        clear hh hd
        go_wp2_with fail
        refine h2.mono ?_
        rintro e w3 ⟨rfl, hd3⟩
        have hdr3 : Drawn0 wr w3 := by
          obtain ⟨k, rfl⟩ := hd3.out
          exact HD.out.step k
        have HD3 := Aside0.mk hdr3
        have h4 := HH.out w3 hdr3
        clear h2 hd3 hdr3
        go_wp2_with fail
        refine h4.mono ?_
        rintro e w4 ⟨rfl, hd4⟩
        have hdr4 : Drawn0 wr w4 := by
          obtain ⟨k, rfl⟩ := hd4.out
          exact HD3.out.step k
        have HD4 := Aside0.mk hdr4
        have hTB := (HK.out w4 (ho.out.trans (Only.drawn hdr4 (Nat.le_of_lt hi.out.lt))).1).2
        clear h4 hd4 hdr4
        by_cases hle : n ≤ (4611686018427387903 - (digI x).toNat) / 16
        · rw [if_pos hle] at hmore
          have h5 := hexa_More.calls 5 (n : Int) x _ _ w4 hTB hmore
          obtain ⟨n2, hn2⟩ : ∃ n2, 16 * n + (digI x).toNat = n2 := ⟨_, rfl⟩
          rw [hn2] at h5 HE
          have hn2le : n2 ≤ 4611686018427387903 := by omega
          clear hmore
          go_wp2_with fail
          refine h5.mono ?_
          rintro e w5 ⟨rfl, hd5⟩
          have hdr5 : Drawn0 wr w5 := by
            obtain ⟨k, rfl⟩ := hd5.out
            exact HD4.out.step k
          have HI5 := Aside0.mk (hi.out.below hdr5.below)
          have HO5 := Aside0.mk (ho.out.trans (Only.drawn hdr5 (Nat.le_of_lt hi.out.lt)))
          clear h5 hd5 hdr5
          by_cases hg16 : g < 16
          · have hg16' : (g : Int) < 16 := by omega
            rw [if_pos ⟨hg16, hle⟩] at HE
            have c4 := HI5.out.c4
            have z4 := HI5.out.fz 4
            have hw1 : IntKind.i64.wrap ((a : Int) + 1) = ((a + 1 : Nat) : Int) := by
              unfold IntKind.wrap
              simp [IntKind.bits, IntKind.signed]
              omega
            have hw2 : IntKind.i64.wrap ((g : Int) + 1) = (g : Int) + 1 := by
              unfold IntKind.wrap
              simp [IntKind.bits, IntKind.signed]
              omega
            obtain ⟨m, hm⟩ : ∃ m, a + 1 = m := ⟨_, rfl⟩
            rw [hm] at hw1 HE
            go_wp2_with fail
            refine (must_on b 3 w5).mono ?_
            rintro e w6 ⟨rfl, rfl⟩
            go_wp2
            go_roundw
            case rel => exact ⟨f, m, n2, g + 1, rfl, by simp, by omega, by omega, by omega, hn2le, HE, ⟨HI5.out.s4 m⟩, ⟨HO5.out.trans (Only.set _ 4 _)⟩⟩
            case measure => simp [intOf]; omega
          · have hg16' : ¬ (g : Int) < 16 := by omega
            rw [if_neg (fun h => hg16 h.1)] at HE
            go_wp2_with fail
            refine (must_off b a 3 w5 HI5.out.c4).mono ?_
            rintro e w6 ⟨rfl, rfl⟩
            refine ⟨rfl, ?_⟩
            show Does w b A s.length c e0 e1 e2 dv (fun n : Nat => Value.int .u64 (n : Int)) (sizeM s a0) _ _
            rw [← HE.out]
            exact ⟨rfl, HI5.out, HO5.out⟩
        · rw [if_neg hle] at hmore
          have h5 := hexa_More.calls 5 (n : Int) x _ _ w4 hTB hmore
          clear hmore
          rw [if_neg (fun h => hle h.2)] at HE
          go_wp2_with fail
          refine h5.mono ?_
          rintro e w5 ⟨rfl, hd5⟩
          have hdr5 : Drawn0 wr w5 := by
            obtain ⟨k, rfl⟩ := hd5.out
            exact HD4.out.step k
          have HI5 := Aside0.mk (hi.out.below hdr5.below)
          have HO5 := Aside0.mk (ho.out.trans (Only.drawn hdr5 (Nat.le_of_lt hi.out.lt)))
          clear h5 hd5 hdr5
          by_cases hg16 : g < 16
          · have hg16' : (g : Int) < 16 := by omega
            go_wp2_with fail
            refine (must_off b a 3 w5 HI5.out.c4).mono ?_
            rintro e w6 ⟨rfl, rfl⟩
            refine ⟨rfl, ?_⟩
            show Does w b A s.length c e0 e1 e2 dv (fun n : Nat => Value.int .u64 (n : Int)) (sizeM s a0) _ _
            rw [← HE.out]
            exact ⟨rfl, HI5.out, HO5.out⟩
          · have hg16' : ¬ (g : Int) < 16 := by omega
            go_wp2_with fail
            refine (must_off b a 3 w5 HI5.out.c4).mono ?_
            rintro e w6 ⟨rfl, rfl⟩
            refine ⟨rfl, ?_⟩
            show Does w b A s.length c e0 e1 e2 dv (fun n : Nat => Value.int .u64 (n : Int)) (sizeM s a0) _ _
            rw [← HE.out]
            exact ⟨rfl, HI5.out, HO5.out⟩
    · rw [sizeL, if_neg hlt] at he
      have hh := here_off b A _ c e0 e1 e2 a dv wr hi.out (by omega)
      go_wp2_with fail
      refine hh.mono ?_
      rintro e w2 ⟨rfl, hd⟩
      refine ⟨rfl, ?_⟩
      show Does w b A s.length c e0 e1 e2 dv (fun n : Nat => Value.int .u64 (n : Int)) (sizeM s a0) _ _
      rw [← he.out]
      exact ⟨rfl, hi.out.below hd.below, ho.out.trans (Only.drawn hd (Nat.le_of_lt hi.out.lt))⟩
end Go.Proofs.YtmmbpbgcobmifaaGreatDoorH
end
section
namespace Go.Proofs.YtmmbpbgcobmifaaGreatDoor.Pr
end Go.Proofs.YtmmbpbgcobmifaaGreatDoor.Pr
namespace Go.Proofs.YtmmbpbgcobmifaaGreatDoorH
open Go.RowKit Go.Proofs.YtmmbpbgcobmifaaGreatDoorW.PrintWords Go.Proofs.YtmmbpbgcobmifaaGreatDoorW.PrintLast Go.Proofs.YtmmbpbgcobmifaaGreatDoorW.PrintMore Go.Proofs.YtmmbpbgcobmifaaGreatDoor.Pr
def textB (x : Int) : Bool := allB textI (strOfNums ([x] : List Int))
theorem textB_eq (x : Int) : octet_Text.f (strOfNums ([x] : List Int)) = some (textB x) := by
  unfold octet_Text.f textB
  rw [if_pos (by rw [show (strOfNums ([x] : List Int)).size = 1 from rfl]; omega)]
def extL : Nat → List Int → Int → Nat → Nat → RM Unit
  | 0, _, _, a, _ => .ok ((), a)
  | f + 1, s, e0, a, n => if a < s.length then (if textB (s.getD a 0) = true then (if (n : Int) ≤ e0 then extL f s e0 (a + 1) (n + 1) else .error (a, 5)) else .ok ((), a)) else .error (a, 4)
def extM (s : List Int) (e0 : Int) (a : Nat) : RM Unit := if a < s.length then (if s.getD a 0 = 59 then extL (s.length - a + 1) s e0 a 1 else .ok ((), a)) else .error (a, 4)
section
variable {W : World} {b : Nat} {A : Option Addr} {n c : Nat} {e0 e1 e2 : Int} {at_ : Nat} {dv : Value}
theorem IsR.c2 (h : IsR W b A n c e0 e1 e2 at_ dv) : W.cell? ⟨b, 2, none⟩ = some (.int .i64 e1) := (blk_cell h 2).trans rfl
theorem IsR.c3 (h : IsR W b A n c e0 e1 e2 at_ dv) : W.cell? ⟨b, 3, none⟩ = some (.int .i64 e2) := (blk_cell h 3).trans rfl
end
set_option maxHeartbeats 8000000 in
set_option maxRecDepth 100000 in
theorem ext_does (b : Nat) (A : Option Addr) (c : Nat) (e0 e1 e2 : Int) (a0 : Nat) (dv : Value) (s : List Int) (w : World) (h : IsR w b A s.length c e0 e1 e2 a0 dv) (hC : Keeps b w fun W => Kd.C (Kd.int .u8) W A s.length s ∧ TabOk W) (hs : ByteL s) (hl : s.length ≤ 1073741824) (ha0 : a0 ≤ s.length) :
    Calls Tryz.prog 48 #[.pointer (some ⟨b, 0, none⟩)] w (Does w b A s.length c e0 e1 e2 dv (fun _ : Unit => .tuple #[]) (extM s e0 a0)) := by
  have HK := Aside0.mk hC
  have HS := Aside0.mk hs
  have HI := Aside0.mk h
  by_cases hlt0 : a0 < s.length
  · have hh0 := here_on b A _ c e0 e1 e2 a0 dv s w h hC.here.1 hlt0
    by_cases h59 : s.getD a0 0 = 59
    · have hM : extL (s.length - a0 + 1) s e0 a0 1 = extM s e0 a0 := by
        unfold extM
        rw [if_pos hlt0, if_pos h59]
      rw [h59] at hh0
      have HM := Aside0.mk hM
      clear hC hs h hM h59
      go_enter Tryz.func48, Tryz.ntmps48
      go_wp2_with fail
      refine hh0.mono ?_
      rintro e w1 ⟨rfl, hd⟩
      have HI1 := Aside0.mk (HI.out.below hd.below)
      have HO1 := Aside0.mk (Only.drawn hd (Nat.le_of_lt HI.out.lt))
      clear hh0 hd
      go_wp2_with fail
      go_loopw [2] (fun u2 wr => ∃ f a n : Nat, u2 = .int .i64 (n : Int) ∧ s.length - a < f ∧ a ≤ s.length ∧ n + a0 = a + 1 ∧ Aside0 (extL f s e0 a n = extM s e0 a0) ∧ Aside0 (IsR wr b A s.length c e0 e1 e2 a dv) ∧ Aside0 (Only b w wr)) (fun u2 _ => s.length + 2 - (intOf u2).toNat)
      case atStart => exact ⟨s.length - a0 + 1, a0, 1, rfl, by omega, ha0, by omega, HM, HI1, HO1⟩
      case round =>
        obtain ⟨f, a, n, rfl, hf, ha, hn, he, hi, ho⟩ := hrel
        obtain ⟨f, rfl⟩ : ∃ m, f = m + 1 := ⟨f - 1, by omega⟩
        by_cases hlt : a < s.length
        · have hh := here_on b A _ c e0 e1 e2 a dv s wr hi.out (HK.out wr ho.out.1).1 hlt
          have HE := Aside0.mk he.out
          rw [extL, if_pos hlt] at HE
          have hT := textB_eq (s.getD a 0)
          clear he
          generalize hx : s.getD a 0 = x at *
          cases hb : textB x with
          | false =>
            rw [hb] at HE hT
            rw [if_neg (by simp)] at HE
            have HT := Aside0.mk (fun w2 hg => octet_Text.calls _ _ w2 hg hT)
            clear hT
            go_wp2_with fail
            refine hh.mono ?_
            rintro e w2 ⟨rfl, hd⟩
            have HI2 := Aside0.mk (hi.out.below hd.below)
            have HO2 := Aside0.mk (ho.out.trans (Only.drawn hd (Nat.le_of_lt hi.out.lt)))
            clear hh hd
            go_wp2_with ((with_reducible refine gate_dst (N := 8) rfl ?_); refine Kd.R_lit (Kd.int .u8) _ 5 ?hg (N := 8) ?hd (xs := ([x] : List Int)) (inner := [.int .u8 x]) (ok := fun _ => True) (okp := fun _ => True) ?hr ?hp (fun _ hk => hk) trivial (Below.refl _ _) (Nat.le_refl _) (by simp) ?_; (case hd => rfl); (case hg => rfl); (case hr => first | (go_simp; done) | (go_simp; rfl)); (case hp => exact (Reps.one (show Kd.M (Kd.int .u8) _ _ _ x [.int .u8 x] from rfl) (Reps.none _ _))); intro v3 w3 ho3 hb3 hg_ hnew_; clear hg_ hnew_; have hcv := own_string (P := Tryz.prog) Tryz.underlying25 Tryz.underlying5 Tryz.underlying9 (Kd.own_of_R ho3); have HI3 := Aside0.mk (HI2.out.below hb3); have HO3 := Aside0.mk (HO2.out.trans (Only.of_below hb3 (Nat.le_of_lt HI2.out.lt))); clear hb3 ho3)
            refine (HT.out w3 (HK.out w3 HO3.out.1).2).mono ?_
            rintro e w4 ⟨rfl, hb4⟩
            have HI4 := Aside0.mk (HI3.out.below hb4)
            have HO4 := Aside0.mk (HO3.out.trans (Only.of_below hb4 (Nat.le_of_lt HI3.out.lt)))
            clear hb4
            go_wp2
            go_end0
            show Does w b A s.length c e0 e1 e2 dv (fun _ : Unit => .tuple #[]) (extM s e0 a0) _ _
            rw [← HE.out]
            exact ⟨rfl, HI4.out, HO4.out⟩
          | true =>
            rw [hb] at HE hT
            rw [if_pos rfl] at HE
            have HT := Aside0.mk (fun w2 hg => octet_Text.calls _ _ w2 hg hT)
            clear hT
            by_cases hle : (n : Int) ≤ e0
            · rw [if_pos hle] at HE
              go_wp2_with fail
              refine hh.mono ?_
              rintro e w2 ⟨rfl, hd⟩
              have HI2 := Aside0.mk (hi.out.below hd.below)
              have HO2 := Aside0.mk (ho.out.trans (Only.drawn hd (Nat.le_of_lt hi.out.lt)))
              clear hh hd
              go_wp2_with ((with_reducible refine gate_dst (N := 8) rfl ?_); refine Kd.R_lit (Kd.int .u8) _ 5 ?hg (N := 8) ?hd (xs := ([x] : List Int)) (inner := [.int .u8 x]) (ok := fun _ => True) (okp := fun _ => True) ?hr ?hp (fun _ hk => hk) trivial (Below.refl _ _) (Nat.le_refl _) (by simp) ?_; (case hd => rfl); (case hg => rfl); (case hr => first | (go_simp; done) | (go_simp; rfl)); (case hp => exact (Reps.one (show Kd.M (Kd.int .u8) _ _ _ x [.int .u8 x] from rfl) (Reps.none _ _))); intro v3 w3 ho3 hb3 hg_ hnew_; clear hg_ hnew_; have hcv := own_string (P := Tryz.prog) Tryz.underlying25 Tryz.underlying5 Tryz.underlying9 (Kd.own_of_R ho3); have HI3 := Aside0.mk (HI2.out.below hb3); have HO3 := Aside0.mk (HO2.out.trans (Only.of_below hb3 (Nat.le_of_lt HI2.out.lt))); clear hb3 ho3)
              refine (HT.out w3 (HK.out w3 HO3.out.1).2).mono ?_
              rintro e w4 ⟨rfl, hb4⟩
              have HI4 := Aside0.mk (HI3.out.below hb4)
              have HO4 := Aside0.mk (HO3.out.trans (Only.of_below hb4 (Nat.le_of_lt HI3.out.lt)))
              clear hb4
              have c1 := HI4.out.c1
              have c4 := HI4.out.c4
              have z4 := HI4.out.fz 4
              have hw1 : IntKind.i64.wrap ((a : Int) + 1) = ((a + 1 : Nat) : Int) := by
                unfold IntKind.wrap
                simp [IntKind.bits, IntKind.signed]
                omega
              have hw2 : IntKind.i64.wrap ((n : Int) + 1) = (n : Int) + 1 := by
                unfold IntKind.wrap
                simp [IntKind.bits, IntKind.signed]
                omega
              obtain ⟨m, hm⟩ : ∃ m, a + 1 = m := ⟨_, rfl⟩
              rw [hm] at hw1 HE
              go_wp2_with fail
              refine (must_on b 5 w4).mono ?_
              rintro e w6 ⟨rfl, rfl⟩
              go_wp2
              go_roundw
              case rel => exact ⟨f, m, n + 1, by simp, by omega, by omega, by omega, HE, ⟨HI4.out.s4 m⟩, ⟨HO4.out.trans (Only.set _ 4 _)⟩⟩
              case measure => simp [intOf]; omega
            · have hle' : decide ((n : Int) ≤ e0) = false := decide_eq_false hle
              rw [if_neg hle] at HE
              go_wp2_with fail
              refine hh.mono ?_
              rintro e w2 ⟨rfl, hd⟩
              have HI2 := Aside0.mk (hi.out.below hd.below)
              have HO2 := Aside0.mk (ho.out.trans (Only.drawn hd (Nat.le_of_lt hi.out.lt)))
              clear hh hd
              go_wp2_with ((with_reducible refine gate_dst (N := 8) rfl ?_); refine Kd.R_lit (Kd.int .u8) _ 5 ?hg (N := 8) ?hd (xs := ([x] : List Int)) (inner := [.int .u8 x]) (ok := fun _ => True) (okp := fun _ => True) ?hr ?hp (fun _ hk => hk) trivial (Below.refl _ _) (Nat.le_refl _) (by simp) ?_; (case hd => rfl); (case hg => rfl); (case hr => first | (go_simp; done) | (go_simp; rfl)); (case hp => exact (Reps.one (show Kd.M (Kd.int .u8) _ _ _ x [.int .u8 x] from rfl) (Reps.none _ _))); intro v3 w3 ho3 hb3 hg_ hnew_; clear hg_ hnew_; have hcv := own_string (P := Tryz.prog) Tryz.underlying25 Tryz.underlying5 Tryz.underlying9 (Kd.own_of_R ho3); have HI3 := Aside0.mk (HI2.out.below hb3); have HO3 := Aside0.mk (HO2.out.trans (Only.of_below hb3 (Nat.le_of_lt HI2.out.lt))); clear hb3 ho3)
              refine (HT.out w3 (HK.out w3 HO3.out.1).2).mono ?_
              rintro e w4 ⟨rfl, hb4⟩
              have HI4 := Aside0.mk (HI3.out.below hb4)
              have HO4 := Aside0.mk (HO3.out.trans (Only.of_below hb4 (Nat.le_of_lt HI3.out.lt)))
              clear hb4
              have c1 := HI4.out.c1
              have HMO := Aside0.mk (must_off b a 5 w4 HI4.out.c4)
              go_wp2_with fail
              refine HMO.out.mono ?_
              rintro e w6 ⟨rfl, rfl⟩
              refine ⟨rfl, ?_⟩
              show Does w b A s.length c e0 e1 e2 dv (fun _ : Unit => .tuple #[]) (extM s e0 a0) _ _
              rw [← HE.out]
              exact ⟨rfl, HI4.out, HO4.out⟩
        · rw [extL, if_neg hlt] at he
          have hh := here_off b A _ c e0 e1 e2 a dv wr hi.out (by omega)
          go_wp2_with fail
          refine hh.mono ?_
          rintro e w2 ⟨rfl, hd⟩
          refine ⟨rfl, ?_⟩
          show Does w b A s.length c e0 e1 e2 dv (fun _ : Unit => .tuple #[]) (extM s e0 a0) _ _
          rw [← he.out]
          exact ⟨rfl, hi.out.below hd.below, ho.out.trans (Only.drawn hd (Nat.le_of_lt hi.out.lt))⟩
    · have hM : extM s e0 a0 = .ok ((), a0) := by
        unfold extM
        rw [if_pos hlt0, if_neg h59]
      have hne : (s.getD a0 0 != 59) = true := bne_iff_ne.mpr h59
      rw [hM]
      generalize s.getD a0 0 = x at *
      clear hC hs h hM h59
      go_enter Tryz.func48, Tryz.ntmps48
      go_wp2_with fail
      refine hh0.mono ?_
      rintro e w1 ⟨rfl, hd⟩
      have HI1 := Aside0.mk (HI.out.below hd.below)
      have HO1 := Aside0.mk (Only.drawn hd (Nat.le_of_lt HI.out.lt))
      clear hh0 hd
      go_wp2
      first | go_ret | go_end0
      exact ⟨rfl, HI1.out, HO1.out⟩
  · have hM : extM s e0 a0 = .error (a0, 4) := by
      unfold extM
      rw [if_neg hlt0]
    rw [hM]
    have hh := here_off b A _ c e0 e1 e2 a0 dv w h (by omega)
    clear hC hs h hM
    go_enter Tryz.func48, Tryz.ntmps48
    go_wp2_with fail
    refine hh.mono ?_
    rintro e w2 ⟨rfl, hd⟩
    exact ⟨rfl, rfl, HI.out.below hd.below, Only.drawn hd (Nat.le_of_lt HI.out.lt)⟩
end Go.Proofs.YtmmbpbgcobmifaaGreatDoorH
end
section
namespace Go.Proofs.YtmmbpbgcobmifaaGreatDoor.Pr
end Go.Proofs.YtmmbpbgcobmifaaGreatDoor.Pr
namespace Go.Proofs.YtmmbpbgcobmifaaGreatDoorH
open Go Go.RowKit Go.Proofs.YtmmbpbgcobmifaaGreatDoorW.PrintWords Go.Proofs.YtmmbpbgcobmifaaGreatDoorW.PrintLast Go.Proofs.YtmmbpbgcobmifaaGreatDoorW.PrintMore Go.Proofs.YtmmbpbgcobmifaaGreatDoor.Pr
theorem sizeL_le {s : List Int} (hs : ByteL s) : ∀ (f a n g : Nat) {m a1 : Nat}, sizeL f s a n g = .ok (m, a1) → a ≤ s.length → n ≤ 4611686018427387903 → a1 ≤ s.length ∧ m ≤ 4611686018427387903
  | 0, a, n, g, m, a1, h, _, _ => by cases h
  | f + 1, a, n, g, m, a1, h, ha, hn => by
    unfold sizeL at h
    split at h
    · split at h
      · split at h
        · cases h
          exact ⟨ha, hn⟩
        · cases h
      · split at h
        · rename_i h1 h2 h3
          have hby := byteL_getD hs h1
          have hdg := (digit_eq hby.1 hby.2).2
          exact sizeL_le hs f _ _ _ h (by omega) (by omega)
        · cases h
    · cases h
theorem sizeM_le {s : List Int} (hs : ByteL s) {a m a1 : Nat} (h : sizeM s a = .ok (m, a1)) (ha : a ≤ s.length) : a1 ≤ s.length ∧ m ≤ 4611686018427387903 := sizeL_le hs _ _ _ _ h ha (by omega)
theorem extL_le {s : List Int} {e0 : Int} : ∀ (f a n : Nat) {u : Unit} {a1 : Nat}, extL f s e0 a n = .ok (u, a1) → a ≤ s.length → a1 ≤ s.length
  | 0, a, n, u, a1, h, ha => by cases h; exact ha
  | f + 1, a, n, u, a1, h, ha => by
    unfold extL at h
    split at h
    · split at h
      · split at h
        · exact extL_le f _ _ h (by omega)
        · cases h
      · cases h
        exact ha
    · cases h
theorem extM_le {s : List Int} {e0 : Int} {a : Nat} {u : Unit} {a1 : Nat} (h : extM s e0 a = .ok (u, a1)) (ha : a ≤ s.length) : a1 ≤ s.length := by
  unfold extM at h
  split at h
  · split at h
    · exact extL_le _ _ _ h ha
    · cases h
      exact ha
  · cases h
theorem byteM_le {s : List Int} {c : Int} {a : Nat} {u : Unit} {a1 : Nat} (h : byteM s c a = .ok (u, a1)) : a1 ≤ s.length := by
  unfold byteM at h
  split at h
  · split at h
    · cases h
      omega
    · cases h
  · cases h
theorem endM_le {s : List Int} {a : Nat} {u : Unit} {a1 : Nat} (h : endM s a = .ok (u, a1)) : a1 ≤ s.length := by
  unfold endM at h
  split at h
  · exact byteM_le h
  · cases h
def tailM (s : List Int) (m : Nat) (L : List Int) : RM Bool × List Int :=
  match endM s m with
  | .error x => (.error x, L)
  | .ok (_, a4) => (.ok (true, a4), L)
theorem tail_err {s : List Int} {m : Nat} {x : Nat × Int} (L : List Int) (h : endM s m = .error x) : tailM s m L = (.error x, L) := by unfold tailM; rw [h]
theorem tail_ok {s : List Int} {m : Nat} {u : Unit} {a : Nat} (L : List Int) (h : endM s m = .ok (u, a)) : tailM s m L = (.ok (true, a), L) := by unfold tailM; rw [h]
def chunkM (s : List Int) (e0 : Int) (a : Nat) : RM Bool × List Int :=
  match sizeM s a with
  | .error x => (.error x, [])
  | .ok (n, a1) => match extM s e0 a1 with
    | .error x => (.error x, [])
    | .ok (_, a2) => match endM s a2 with
      | .error x => (.error x, [])
      | .ok (_, a3) =>
        if n = 0 then (.ok (false, a3), [])
        else if n ≤ s.length - a3 then tailM s (a3 + n) ((s.take (a3 + n)).drop a3)
        else (.error (s.length, 4), s.drop a3)
theorem IsR.s5 {W : World} {b : Nat} {A : Option Addr} {n c : Nat} {e0 e1 e2 : Int} {at_ : Nat} {dv : Value} (h : IsR W b A n c e0 e1 e2 at_ dv) (v : Value) : IsR (W.setCell ⟨b, 5, none⟩ v) b A n c e0 e1 e2 at_ v := by
  unfold IsR; simpa using blk_set h 5 v
theorem RowD.far {W : World} {base b : Nat} {v : Value} {l : List Int} (h : RowD W base v l) (hne : v.ownBlock ≠ some b) (j : Nat) (u : Value) : RowD (W.setCell ⟨b, j, none⟩ u) base v l :=
  h.only (Only.set W j u) hne
theorem IsR.not_row {W : World} {b : Nat} {A : Option Addr} {n c : Nat} {e0 e1 e2 : Int} {at_ : Nat} {dv : Value} (h : IsR W b A n c e0 e1 e2 at_ dv) {base : Nat} {v : Value} {l : List Int} (hr : RowD W base v l) : v.ownBlock ≠ some b := fun e => by
  obtain ⟨_, cs, hc⟩ := hr.at b e
  have := hc.symm.trans h
  cases this
def Fore (b : Nat) (w W : World) : Prop := ∀ (k : Nat) (cs : Array Value) (t : TypeId), t ≠ 5 → k ≠ b → w.heap[k]? = some (.cells cs t (0, 0)) → W.heap[k]? = some (.cells cs t (0, 0))
theorem Fore.refl (b : Nat) (w : World) : Fore b w w := fun _ _ _ _ _ h => h
theorem Fore.trans {b : Nat} {w w1 w2 : World} (h : Fore b w w1) (k : Fore b w1 w2) : Fore b w w2 := fun x cs t ht hx hc => k x cs t ht hx (h x cs t ht hx hc)
theorem Fore.only {b : Nat} {w w1 : World} (h : Only b w w1) : Fore b w w1 := fun _ _ _ _ hx hc => h.blk hc hx
def DoesD {α : Type} (w : World) (B b : Nat) (A : Option Addr) (n c : Nat) (e0 e1 e2 : Int) (D : List Int) (enc : α → Value) (m : RM α) (e : Ending) (w' : World) : Prop :=
  ∃ dv, RowD w' B dv D ∧ (Below B w w' ∧ Fore b w w') ∧ (match m with
  | .ok (x, a) => e = .returned (enc x) ∧ IsR w' b A n c e0 e1 e2 a dv
  | .error (a, er) => e = gaveUp a er ∧ IsR w' b A n c e0 e1 e2 a dv)
structure AtR (w W : World) (B b : Nat) (A : Option Addr) (n c : Nat) (e0 e1 e2 : Int) (a : Nat) (dv : Value) (D : List Int) : Prop where
  i : IsR W b A n c e0 e1 e2 a dv
  r : RowD W B dv D
  f : Fore b w W
  b : Below B w W
theorem AtR.only {w W W1 : World} {B b : Nat} {A : Option Addr} {n c : Nat} {e0 e1 e2 : Int} {a a1 : Nat} {dv : Value} {D : List Int} (h : AtR w W B b A n c e0 e1 e2 a dv D) (hB : B ≤ b) (hi : IsR W1 b A n c e0 e1 e2 a1 dv) (ho : Only b W W1) : AtR w W1 B b A n c e0 e1 e2 a1 dv D :=
  ⟨hi, h.r.only ho (h.i.not_row h.r), h.f.trans (Fore.only ho), h.b.trans (ho.1.mono hB)⟩
theorem AtR.set4 {w W : World} {B b : Nat} {A : Option Addr} {n c : Nat} {e0 e1 e2 : Int} {a : Nat} {dv : Value} {D : List Int} (h : AtR w W B b A n c e0 e1 e2 a dv D) (hB : B ≤ b) (x : Nat) : AtR w (W.setCell ⟨b, 4, none⟩ (.int .i64 (x : Int))) B b A n c e0 e1 e2 x dv D :=
  h.only hB (h.i.s4 x) (Only.set W 4 _)
theorem AtR.then {w W W1 : World} {B b : Nat} {A : Option Addr} {n c : Nat} {e0 e1 e2 : Int} {a : Nat} {dv v1 : Value} {D D1 : List Int} (h : AtR w W B b A n c e0 e1 e2 a dv D) (hB : B ≤ b)
    (hr : RowD W1 B v1 D1) (hb : Below B W W1) (hk : ∀ x ob, W.heap[x]? = some ob → some x ≠ dv.ownBlock → W1.heap[x]? = some ob) : AtR w (W1.setCell ⟨b, 5, none⟩ v1) B b A n c e0 e1 e2 a v1 D1 := by
  have h1 : IsR W1 b A n c e0 e1 e2 a dv := hk b _ h.i (fun e => h.i.not_row h.r e.symm)
  refine ⟨h1.s5 v1, hr.far (h1.not_row hr) 5 v1, h.f.trans fun x cs t ht hx hc => ?_, (h.b.trans hb).trans ((Below.refl _ _).setCell (p := ⟨b, 5, none⟩) hB v1)⟩
  have hne : some x ≠ dv.ownBlock := fun e => by
    obtain ⟨_, cs', hc'⟩ := h.r.at x e.symm
    have := hc.symm.trans hc'
    injection this with this
    injection this with _ h2
    exact ht h2
  exact (Below.heap_setCell _ ⟨b, 5, none⟩ v1 x hx).trans (hk x _ hc hne)
attribute [local go_sem] min2_int min_two in
set_option maxHeartbeats 8000000 in
set_option maxRecDepth 100000 in
theorem chunk_does (B b : Nat) (A : Option Addr) (c : Nat) (e0 e1 e2 : Int) (a0 : Nat) (dv : Value) (s D : List Int) (w : World) (h : IsR w b A s.length c e0 e1 e2 a0 dv) (hR : RowD w B dv D) (hBb : B ≤ b) (hBw : B ≤ w.heap.size) (hC : Keeps B w fun W => Kd.C (Kd.int .u8) W A s.length s ∧ TabOk W) (hs : ByteL s) (hl : s.length ≤ 1073741824) (hD : D.length ≤ 1073741824) (hsc : s.length ≤ c) (ha0 : a0 ≤ s.length) :
    Calls Tryz.prog 38 #[.pointer (some ⟨b, 0, none⟩)] w (DoesD w B b A s.length c e0 e1 e2 (D ++ (chunkM s e0 a0).2) Value.bool (chunkM s e0 a0).1) := by
  have AT0 := Aside0.mk (show AtR w w B b A s.length c e0 e1 e2 a0 dv D from ⟨h, hR, Fore.refl _ _, Below.refl _ _⟩)
  have HK := Aside0.mk (fun (W : World) (a : Nat) (v : Value) (E : List Int) (hA : AtR w W B b A s.length c e0 e1 e2 a v E) => (fun W' hW => hC W' (hA.b.trans (hW.mono hBb)) : Keeps b W fun W => Kd.C (Kd.int .u8) W A s.length s ∧ TabOk W))
  have HK1 := Aside0.mk (fun (W : World) (a : Nat) (v : Value) (E : List Int) (hA : AtR w W B b A s.length c e0 e1 e2 a v E) => (fun W' hW => (hC W' (hA.b.trans (hW.mono hBb))).1 : Keeps b W fun W => Kd.C (Kd.int .u8) W A s.length s))
  have HS := Aside0.mk hs
  have H1 := size_does b A c e0 e1 e2 a0 dv s w h (HK.out w _ _ _ AT0.out) hs hl ha0
  clear h hR hC hs
  unfold chunkM
  cases hm1 : sizeM s a0 with
  | error x =>
    obtain ⟨a1, er⟩ := x
    rw [hm1] at H1
    clear hm1
    go_enter Tryz.func38, Tryz.ntmps38
    go_wp2_with fail
    refine H1.mono ?_
    rintro e w1 ⟨rfl, hi, ho⟩
    have A1 := AT0.out.only hBb hi ho
    exact ⟨rfl, dv, by simpa using A1.r, ⟨A1.b, A1.f⟩, rfl, A1.i⟩
  | ok x =>
    obtain ⟨n, a1⟩ := x
    rw [hm1] at H1
    have hle1 := sizeM_le HS.out hm1 ha0
    clear hm1
    have H2 := Aside0.mk (fun W (hA : AtR w W B b A s.length c e0 e1 e2 a1 dv D) => ext_does b A c e0 e1 e2 a1 dv s W hA.i (HK.out W _ _ _ hA) HS.out hl hle1.1)
    show Calls _ _ _ _ (DoesD w B b A s.length c e0 e1 e2 _ _ _)
    dsimp only
    cases hm2 : extM s e0 a1 with
    | error x =>
      obtain ⟨a2, er⟩ := x
      rw [hm2] at H2
      clear hm2
      go_enter Tryz.func38, Tryz.ntmps38
      go_wp2_with fail
      refine H1.mono ?_
      rintro e w1 ⟨rfl, hi, ho⟩
      have A1 := Aside0.mk (AT0.out.only hBb hi ho)
      clear hi ho H1
      have h2 := H2.out w1 A1.out
      go_wp2_with fail
      refine h2.mono ?_
      rintro e w2 ⟨rfl, hi, ho⟩
      have A2 := A1.out.only hBb hi ho
      exact ⟨rfl, dv, by simpa using A2.r, ⟨A2.b, A2.f⟩, rfl, A2.i⟩
    | ok x =>
      obtain ⟨u2, a2⟩ := x
      rw [hm2] at H2
      have hle2 := extM_le hm2 hle1.1
      clear hm2
      have H3 := Aside0.mk (fun W (hA : AtR w W B b A s.length c e0 e1 e2 a2 dv D) => end_does b A c e0 e1 e2 a2 dv s W hA.i (HK1.out W _ _ _ hA))
      dsimp only
      cases hm3 : endM s a2 with
      | error x =>
        obtain ⟨a3, er⟩ := x
        rw [hm3] at H3
        clear hm3
        go_enter Tryz.func38, Tryz.ntmps38
        go_wp2_with fail
        refine H1.mono ?_
        rintro e w1 ⟨rfl, hi, ho⟩
        have A1 := Aside0.mk (AT0.out.only hBb hi ho)
        clear hi ho H1
        have h2 := H2.out w1 A1.out
        go_wp2_with fail
        refine h2.mono ?_
        rintro e w2 ⟨rfl, hi, ho⟩
        have A2 := Aside0.mk (A1.out.only hBb hi ho)
        clear hi ho h2
        have h3 := H3.out w2 A2.out
        go_wp2_with fail
        refine h3.mono ?_
        rintro e w3 ⟨rfl, hi, ho⟩
        have A3 := A2.out.only hBb hi ho
        exact ⟨rfl, dv, by simpa using A3.r, ⟨A3.b, A3.f⟩, rfl, A3.i⟩
      | ok x =>
        obtain ⟨u3, a3⟩ := x
        rw [hm3] at H3
        have hle3 := endM_le hm3
        clear hm3
        dsimp only
        by_cases hn0 : n = 0
        · rw [if_pos hn0]
          subst hn0
          go_enter Tryz.func38, Tryz.ntmps38
          go_wp2_with fail
          refine H1.mono ?_
          rintro e w1 ⟨rfl, hi, ho⟩
          have A1 := Aside0.mk (AT0.out.only hBb hi ho)
          clear hi ho H1
          have h2 := H2.out w1 A1.out
          go_wp2_with fail
          refine h2.mono ?_
          rintro e w2 ⟨rfl, hi, ho⟩
          have A2 := Aside0.mk (A1.out.only hBb hi ho)
          clear hi ho h2
          have h3 := H3.out w2 A2.out
          go_wp2_with fail
          refine h3.mono ?_
          rintro e w3 ⟨rfl, hi, ho⟩
          have A3 := Aside0.mk (A2.out.only hBb hi ho)
          clear hi ho h3
          go_wp2
          go_ret
          exact ⟨dv, by simpa using A3.out.r, ⟨A3.out.b, A3.out.f⟩, rfl, A3.out.i⟩
        · rw [if_neg hn0]
          have hn0' : ((n : Int) == 0) = false := by rw [beq_eq_false_iff_ne]; omega
          have hw1 : IntKind.i64.wrap ((s.length : Int) - (a3 : Int)) = ((s.length - a3 : Nat) : Int) := by
            unfold IntKind.wrap
            simp [IntKind.bits, IntKind.signed]
            omega
          have hw2 : IntKind.u64.wrap ((s.length - a3 : Nat) : Int) = ((s.length - a3 : Nat) : Int) := by
            unfold IntKind.wrap
            simp [IntKind.bits, IntKind.signed]
            omega
          by_cases hle : n ≤ s.length - a3
          · rw [if_pos hle]
            have hmn : (if ((s.length - a3 : Nat) : Int) < (n : Int) then ((s.length - a3 : Nat) : Int) else (n : Int)) = (n : Int) := if_neg (by omega)
            have H4 := Aside0.mk (fun W (v : Value) (E : List Int) (hA : AtR w W B b A s.length c e0 e1 e2 (a3 + n) v E) => end_does b A c e0 e1 e2 (a3 + n) v s W hA.i (HK1.out W _ _ _ hA))
            have hw3 : IntKind.i64.wrap (n : Int) = (n : Int) := by
              unfold IntKind.wrap
              simp [IntKind.bits, IntKind.signed]
              omega
            have hw4 : IntKind.i64.wrap ((a3 : Int) + (n : Int)) = ((a3 + n : Nat) : Int) := by
              unfold IntKind.wrap
              simp [IntKind.bits, IntKind.signed]
              omega
            have hLl : ((s.take (a3 + n)).drop a3).length = n := by
              rw [List.length_drop, List.length_take]
              omega
            obtain ⟨A', c', hsl, hCl⟩ : ∃ A' c', (∀ W : World, (Instr.slice 25 (.slice A s.length c) (some (.int .i64 (a3 : Int))) (some (.int .i64 ((a3 + n : Nat) : Int))) none).run Tryz.prog W = .ok (.slice A' n c') W) ∧ Aside0 (∀ W, Kd.C (Kd.int .u8) W A s.length s → Kd.C (Kd.int .u8) W A' ((s.take (a3 + n)).drop a3).length ((s.take (a3 + n)).drop a3)) := by
              refine ⟨_, c - a3, fun W => ?_, ⟨fun W hW => Kd.C_mid (c := c) hW (by omega) (by omega) hsc⟩⟩
              have hq : (Tryz.prog.info? 5).map (fun i => i.size) = some 1 := by kernel_rfl
              obtain ⟨i, hi, hsz⟩ := Option.map_eq_some_iff.1 hq
              have := cut_mid (P := Tryz.prog) 25 5 .i64 .i64 Tryz.underlying25 hi 1 hsz A s.length c (a3 : Int) ((a3 + n : Nat) : Int) (by omega) (by omega) (by omega) hsc W
              rw [this]
              simp only [Int.toNat_natCast, show a3 + n - a3 = n by omega]
              rfl
            obtain ⟨L, hL⟩ : ∃ L, (s.take (a3 + n)).drop a3 = L := ⟨_, rfl⟩
            rw [hL] at hLl hCl
            rw [hL]
            clear hL
            obtain ⟨m, hm⟩ : ∃ m, a3 + n = m := ⟨_, rfl⟩
            rw [hm] at hw4 hsl H4
            rw [hm]
            go_enter Tryz.func38, Tryz.ntmps38
            go_wp2_with fail
            refine H1.mono ?_
            rintro e w1 ⟨rfl, hi, ho⟩
            have A1 := Aside0.mk (AT0.out.only hBb hi ho)
            clear hi ho H1
            have h2 := H2.out w1 A1.out
            go_wp2_with fail
            refine h2.mono ?_
            rintro e w2 ⟨rfl, hi, ho⟩
            have A2 := Aside0.mk (A1.out.only hBb hi ho)
            clear hi ho h2
            have h3 := H3.out w2 A2.out
            go_wp2_with fail
            refine h3.mono ?_
            rintro e w3 ⟨rfl, hi, ho⟩
            have A3 := Aside0.mk (A2.out.only hBb hi ho)
            clear hi ho h3
            have c0 := A3.out.i.c0
            have c4 := A3.out.i.c4
            have c5 := A3.out.i.c5
            have z5 := A3.out.i.fz 5
            go_wp2_with fail
            go_region_held3 (fun W => W.cell? ⟨b, 0, none⟩ = some (.slice A s.length c) ∧ W.cell? ⟨b, 4, none⟩ = some (.int .i64 (a3 : Int))) (exact ⟨c0, c4⟩) (fail)
            go_wp2_with fail
            have AD : AtR w w3.drew.drew B b A s.length c e0 e1 e2 a3 dv D := ⟨A3.out.i, A3.out.r, A3.out.f, below_drew (below_drew A3.out.b)⟩
            have HAD := Aside0.mk AD
            have HC3 := Aside0.mk (hCl.out w3.drew.drew (HK1.out _ _ _ _ AD _ (Below.refl _ _)))
            have hsz : B ≤ w3.drew.drew.heap.size := Nat.le_trans hBw AD.b.size
            clear AD
            refine wp_region_noPanic ?_
            refine wp_region_held_drew (S := (fun W => W.cell? ⟨b, 0, none⟩ = some (.slice A s.length c) ∧ W.cell? ⟨b, 4, none⟩ = some (.int .i64 (a3 : Int)))) (by kernel_rfl) ?_ (fun hHeld => ?_)
            · exact ⟨c0, c4⟩
            refine take_at (i := 0) (take_d rfl) ?_
            intro h_i
            refine wpAnyH_take (v := ?_) h_i (by kernel_rfl) (by kernel_rfl) (by kernel_rfl) (fun _ _ _ h => h) (Or.inl ⟨by rfl, ?_⟩) (by assumption) ?_
            case refine_2 => (intro w hSw; (try dsimp only at hSw); go_simp; (try with_reducible rfl))
            clear h_i
            try simp only [Act.put, List.setIfInBounds_toArray, List.set_cons_zero, List.set_cons_succ]
            refine take_at (i := 1) (take_d rfl) ?_
            intro h_i
            refine wpAnyH_take (v := ?_) h_i (by kernel_rfl) (by kernel_rfl) (by kernel_rfl) (fun _ _ _ h => h) (Or.inl ⟨by rfl, ?_⟩) (by assumption) ?_
            case refine_2 => (intro w hSw; (try dsimp only at hSw); go_simp; (try with_reducible rfl))
            clear h_i
            try simp only [Act.put, List.setIfInBounds_toArray, List.set_cons_zero, List.set_cons_succ]
            refine take_at (i := 2) (take_d rfl) ?_
            intro h_i
            refine wpAnyH_take (v := ?_) h_i (by kernel_rfl) (by kernel_rfl) (by kernel_rfl) (fun _ _ _ h => h) (Or.inl ⟨by rfl, ?_⟩) (by assumption) ?_
            case refine_2 => (intro w hSw; (try dsimp only at hSw); go_simp; (try with_reducible rfl))
            clear h_i
            try simp only [Act.put, List.setIfInBounds_toArray, List.set_cons_zero, List.set_cons_succ]
            refine take_at (i := 3) (take_d rfl) ?_
            intro h_i
            refine wpAnyH_take (v := ?_) h_i (by kernel_rfl) (by kernel_rfl) (by kernel_rfl) (fun _ _ _ h => h) (Or.inl ⟨by rfl, ?_⟩) (by assumption) ?_
            case refine_2 => (intro w hSw; (try dsimp only at hSw); go_simp; (try with_reducible rfl))
            clear h_i
            try simp only [Act.put, List.setIfInBounds_toArray, List.set_cons_zero, List.set_cons_succ]
            refine take_at (i := 5) (take_d rfl) ?_
            intro h_i
            refine wpAnyH_take (v := ?_) h_i (by kernel_rfl) (by kernel_rfl) (by kernel_rfl) (fun _ _ _ h => h) (Or.inl ⟨by rfl, ?_⟩) (by assumption) ?_
            case refine_2 => (intro w hSw; (try dsimp only at hSw); go_simp; (try with_reducible rfl))
            clear h_i
            try simp only [Act.put, List.setIfInBounds_toArray, List.set_cons_zero, List.set_cons_succ]
            refine take_at (i := 6) (take_d rfl) ?_
            intro h_i
            refine wpAnyH_take (v := ?_) h_i (by kernel_rfl) (by kernel_rfl) (by kernel_rfl) (fun _ _ _ h => h) (Or.inl ⟨by rfl, ?_⟩) (by assumption) ?_
            case refine_2 => (intro w hSw; (try dsimp only at hSw); go_simp; (try with_reducible rfl))
            clear h_i
            try simp only [Act.put, List.setIfInBounds_toArray, List.set_cons_zero, List.set_cons_succ]
            refine take_at (i := 7) (take_d rfl) ?_
            intro h_i
            refine wpAnyH_take (v := ?_) h_i (by kernel_rfl) (by kernel_rfl) (by kernel_rfl) (fun _ _ _ h => h) (Or.inl ⟨by rfl, ?_⟩) (by assumption) ?_
            case refine_2 => (intro w hSw; (try dsimp only at hSw); go_simp; (try with_reducible rfl))
            clear h_i
            try simp only [Act.put, List.setIfInBounds_toArray, List.set_cons_zero, List.set_cons_succ]
            refine take_at (i := 8) (take_d rfl) ?_
            intro h_i
            refine wpAnyH_take (v := ?_) h_i (by kernel_rfl) (by kernel_rfl) (by kernel_rfl) (fun _ _ _ h => h) (Or.inl ⟨by rfl, ?_⟩) (by assumption) ?_
            case refine_2 => (intro w hSw; (try dsimp only at hSw); go_simp; (try with_reducible rfl))
            clear h_i
            try simp only [Act.put, List.setIfInBounds_toArray, List.set_cons_zero, List.set_cons_succ]
            refine take_at (i := 9) (take_d rfl) ?_
            intro h_i
            refine wpAnyH_take (v := ?_) h_i (by kernel_rfl) (by kernel_rfl) (by kernel_rfl) (fun _ _ _ h => h) (Or.inl ⟨by rfl, ?_⟩) (by assumption) ?_
            case refine_2 => (intro w hSw; (try dsimp only at hSw); go_simp; (try with_reducible rfl))
            clear h_i
            try simp only [Act.put, List.setIfInBounds_toArray, List.set_cons_zero, List.set_cons_succ]
            refine take_at (i := 10) (take_d rfl) ?_
            intro h_i
            refine wpAnyH_take (v := ?_) h_i (by kernel_rfl) (by kernel_rfl) (by kernel_rfl) (fun _ _ _ h => h) (Or.inl ⟨by rfl, ?_⟩) (by assumption) ?_
            case refine_2 => (intro w hSw; (try dsimp only at hSw); go_simp; (try with_reducible rfl))
            clear h_i
            try simp only [Act.put, List.setIfInBounds_toArray, List.set_cons_zero, List.set_cons_succ]
            refine take_at (i := 11) (take_d rfl) ?_
            intro h_i
            refine wpAnyH_take (v := ?_) h_i (by kernel_rfl) (by kernel_rfl) (by kernel_rfl) (fun _ _ _ h => h) (Or.inl ⟨by rfl, ?_⟩) (by assumption) ?_
            case refine_2 => (intro w hSw; (try dsimp only at hSw); go_simp; (try with_reducible rfl))
            clear h_i
            try simp only [Act.put, List.setIfInBounds_toArray, List.set_cons_zero, List.set_cons_succ]
            refine take_at (i := 12) (take_d rfl) ?_
            intro h_i
            refine wpAnyH_take (v := ?_) h_i (by kernel_rfl) (by kernel_rfl) (by kernel_rfl) (fun _ _ _ h => h) (Or.inl ⟨by rfl, ?_⟩) (by assumption) ?_
            case refine_2 => (intro w hSw; (try dsimp only at hSw); go_simp; (try with_reducible rfl))
            clear h_i
            try simp only [Act.put, List.setIfInBounds_toArray, List.set_cons_zero, List.set_cons_succ]
            refine take_at (i := 13) (take_d rfl) ?_
            intro h_i
            refine wpAnyH_take (v := ?_) h_i (by kernel_rfl) (by kernel_rfl) (by kernel_rfl) (fun _ _ _ h => h) (Or.inl ⟨by rfl, ?_⟩) (by assumption) ?_
            case refine_2 => (intro w hSw; (try dsimp only at hSw); go_simp; (try with_reducible rfl))
            clear h_i
            try simp only [Act.put, List.setIfInBounds_toArray, List.set_cons_zero, List.set_cons_succ]
            refine take_at (i := 14) (take_d rfl) ?_
            intro h_i
            refine wpAnyH_take (v := ?_) h_i (by kernel_rfl) (by kernel_rfl) (by kernel_rfl) (fun _ _ _ h => h) (Or.inl ⟨by rfl, ?_⟩) (by assumption) ?_
            case refine_2 => (intro w hSw; (try dsimp only at hSw); go_simp; (try with_reducible rfl))
            clear h_i
            try simp only [Act.put, List.setIfInBounds_toArray, List.set_cons_zero, List.set_cons_succ]
            refine take_at (i := 15) (take_d rfl) ?_
            intro h_i
            refine wpAnyH_take (v := ?_) h_i (by kernel_rfl) (by kernel_rfl) (by kernel_rfl) (fun _ _ _ h => h) (Or.inl ⟨by rfl, ?_⟩) (by assumption) ?_
            case refine_2 => (intro w hSw; (try dsimp only at hSw); go_simp; (try with_reducible rfl))
            clear h_i
            try simp only [Act.put, List.setIfInBounds_toArray, List.set_cons_zero, List.set_cons_succ]
            refine take_at (i := 16) (take_d rfl) ?_
            intro h_i
            refine wpAnyH_take (v := ?_) h_i (by kernel_rfl) (by kernel_rfl) (by kernel_rfl) (fun _ _ _ h => h) (Or.inl ⟨by rfl, ?_⟩) (by assumption) ?_
            case refine_2 => (intro w hSw; (try dsimp only at hSw); go_simp; (try with_reducible rfl))
            clear h_i
            try simp only [Act.put, List.setIfInBounds_toArray, List.set_cons_zero, List.set_cons_succ]
            refine take_at (i := 17) (take_d rfl) ?_
            intro h_i
            refine wpAnyH_take (v := ?_) h_i (by kernel_rfl) (by kernel_rfl) (by kernel_rfl) (fun _ _ _ h => h) (Or.inl ⟨by rfl, ?_⟩) (by assumption) ?_
            case refine_2 => (intro w hSw; (try dsimp only at hSw); go_simp; (try with_reducible rfl))
            clear h_i
            try simp only [Act.put, List.setIfInBounds_toArray, List.set_cons_zero, List.set_cons_succ]
            refine take_at (i := 18) (take_d rfl) ?_
            intro h_i
            refine wpAnyH_take (v := ?_) h_i (by kernel_rfl) (by kernel_rfl) (by kernel_rfl) (fun _ _ _ h => h) (Or.inl ⟨by rfl, ?_⟩) (by assumption) ?_
            case refine_2 => (intro w hSw; (try dsimp only at hSw); go_simp; (try with_reducible rfl))
            clear h_i
            try simp only [Act.put, List.setIfInBounds_toArray, List.set_cons_zero, List.set_cons_succ]
            refine take_at (i := 19) (take_d rfl) ?_
            intro h_i
            refine wpAnyH_take (v := ?_) h_i (by kernel_rfl) (by kernel_rfl) (by kernel_rfl) (fun _ _ _ h => h) (Or.inl ⟨by rfl, ?_⟩) (by assumption) ?_
            case refine_2 => (intro w hSw; (try dsimp only at hSw); go_simp; (try with_reducible rfl))
            clear h_i
            try simp only [Act.put, List.setIfInBounds_toArray, List.set_cons_zero, List.set_cons_succ]
            refine take_at (i := 20) (take_d rfl) ?_
            intro h_i
            refine wpAnyH_take (v := ?_) h_i (by kernel_rfl) (by kernel_rfl) (by kernel_rfl) (fun _ _ _ h => h) (Or.inl ⟨by rfl, ?_⟩) (by assumption) ?_
            case refine_2 => (intro w hSw; (try dsimp only at hSw); go_simp; (try with_reducible rfl))
            clear h_i
            try simp only [Act.put, List.setIfInBounds_toArray, List.set_cons_zero, List.set_cons_succ]
            refine wpAnyH_ready (rs := [4]) (by kernel_rfl) (by simp) ?_
            refine AllReadyH.cons (take_d rfl) (fun zK hK => ?_) AllReadyH.nil
            go_simp
            skip
            refine hK.out _ _ ?_ (fun hHeld2 => ?_)
            · exact hHeld
            clear hK zK hHeld
            have hHeld := hHeld2
            clear hHeld2
            try simp only [Act.put, List.setIfInBounds_toArray, List.set_cons_zero, List.set_cons_succ]
            refine wpAnyH_ready (rs := [21]) (by kernel_rfl) (by simp) ?_
            refine AllReadyH.cons (take_d rfl) (fun zK hK => ?_) AllReadyH.nil
            (rw [if_pos (by rfl)]; refine wp_plusB (W0 := w3.drew.drew) B _ _ 25 (.int .u8 0) rfl Tryz.underlying25 (by kernel_rfl) (by rfl) dv D L A' c' rfl (by rw [hLl]; rfl) HAD.out.r HC3.out (Below.refl _ _) hsz (by omega) ?_; intro v1 w4 hv hb hz hk; obtain ⟨A1, k1, q1, _, _⟩ := hv.reads; rw [List.length_append, hLl] at q1; subst q1; have hI4 : IsR w4 b A s.length c e0 e1 e2 a3 dv := hk b _ HAD.out.i (fun e => HAD.out.i.not_row HAD.out.r e.symm); have n0 := hI4.c0; have n4 := hI4.c4; have n5 := hI4.c5; have y5 := hI4.fz 5; have o0 := (hI4.s5 (.slice A1 (D.length + n) k1)).c0; have o4 := (hI4.s5 (.slice A1 (D.length + n) k1)).c4; have AT5 := Aside0.mk (HAD.out.then hBb hv hb hk); clear hv hb hk hI4)
            refine hK.out _ _ ?_ (fun hHeld2 => ?_)
            · exact ⟨n0, n4⟩
            clear hK zK hHeld
            have hHeld := hHeld2
            clear hHeld2
            try simp only [Act.put, List.setIfInBounds_toArray, List.set_cons_zero, List.set_cons_succ]
            refine take_at (i := 22) (take_d rfl) ?_
            intro h_i
            refine wpAnyH_take (v := ?_) h_i (by kernel_rfl) (by kernel_rfl) (by kernel_rfl) (fun _ _ _ h => h) (Or.inl ⟨by rfl, ?_⟩) (by assumption) ?_
            case refine_2 => (intro w hSw; (try dsimp only at hSw); go_simp; (try with_reducible rfl))
            clear h_i
            try simp only [Act.put, List.setIfInBounds_toArray, List.set_cons_zero, List.set_cons_succ]
            refine take_at (i := 23) (take_d rfl) ?_
            intro h_i
            refine wpAnyH_take (v := ?_) h_i (by kernel_rfl) (by kernel_rfl) (by kernel_rfl) (fun _ _ _ h => h) (Or.inl ⟨by rfl, ?_⟩) (by assumption) ?_
            case refine_2 => (intro w hSw; (try dsimp only at hSw); go_simp; (try with_reducible rfl))
            clear h_i
            try simp only [Act.put, List.setIfInBounds_toArray, List.set_cons_zero, List.set_cons_succ]
            refine wpAnyH_ready (rs := [24]) (by kernel_rfl) (by simp) ?_
            refine AllReadyH.cons (take_d rfl) (fun zK hK => ?_) AllReadyH.nil
            go_simp
            skip
            refine hK.out _ _ ?_ (fun hHeld2 => ?_)
            · exact ⟨o0, o4⟩
            clear hK zK hHeld
            have hHeld := hHeld2
            clear hHeld2
            try simp only [Act.put, List.setIfInBounds_toArray, List.set_cons_zero, List.set_cons_succ]
            refine wpAnyH_done (by kernel_rfl) ?_ _
            refine NoPanic.normal ?_
            generalize w4.setCell ⟨b, 5, none⟩ (.slice A1 (D.length + n) k1) = w5 at *
            have d4 := AT5.out.i.c4
            have x4 := AT5.out.i.fz 4
            go_wp2_with fail
            have AT6 := Aside0.mk (AT5.out.set4 hBb m)
            generalize w5.setCell ⟨b, 4, none⟩ (.int .i64 (m : Int)) = w6 at *
            refine (must_on b 4 w6).mono ?_
            rintro e w7 ⟨rfl, rfl⟩
            have h4 := H4.out w7 _ _ AT6.out
            cases hm4 : endM s m with
            | error x =>
              obtain ⟨a4, er⟩ := x
              rw [hm4] at h4
              go_wp2_with fail
              refine h4.mono ?_
              rintro e w8 ⟨rfl, hi, ho⟩
              have A8 := AT6.out.only hBb hi ho
              refine ⟨rfl, ?_⟩
              show DoesD w B b A s.length c e0 e1 e2 (D ++ (tailM s m L).2) Value.bool (tailM s m L).1 _ _
              rw [tail_err L hm4]
              exact ⟨_, A8.r, ⟨A8.b, A8.f⟩, rfl, A8.i⟩
            | ok x =>
              obtain ⟨u4, a4⟩ := x
              rw [hm4] at h4
              go_wp2_with fail
              refine h4.mono ?_
              rintro e w8 ⟨rfl, hi, ho⟩
              have A8 := Aside0.mk (AT6.out.only hBb hi ho)
              clear hi ho h4
              go_wp2
              go_ret
              show DoesD w B b A s.length c e0 e1 e2 (D ++ (tailM s m L).2) Value.bool (tailM s m L).1 _ _
              rw [tail_ok L hm4]
              exact ⟨_, A8.out.r, ⟨A8.out.b, A8.out.f⟩, rfl, A8.out.i⟩
          · rw [if_neg hle]
            obtain ⟨r, hr⟩ : ∃ r, s.length - a3 = r := ⟨_, rfl⟩
            rw [hr] at hw1 hw2 hle
            have hmn : (if (r : Int) < (n : Int) then (r : Int) else (n : Int)) = (r : Int) := if_pos (by omega)
            have hne : ((r : Int) == (n : Int)) = false := by rw [beq_eq_false_iff_ne]; omega
            show Calls _ _ _ _ (DoesD w B b A s.length c e0 e1 e2 (D ++ s.drop a3) Value.bool (.error (s.length, 4)))
            have hw3 : IntKind.i64.wrap (r : Int) = (r : Int) := by
              unfold IntKind.wrap
              simp [IntKind.bits, IntKind.signed]
              omega
            have hw4 : IntKind.i64.wrap ((a3 : Int) + (r : Int)) = ((a3 + r : Nat) : Int) := by
              unfold IntKind.wrap
              simp [IntKind.bits, IntKind.signed]
              omega
            have hLl : ((s.take (a3 + r)).drop a3).length = r := by
              rw [List.length_drop, List.length_take]
              omega
            obtain ⟨A', c', hsl, hCl⟩ : ∃ A' c', (∀ W : World, (Instr.slice 25 (.slice A s.length c) (some (.int .i64 (a3 : Int))) (some (.int .i64 ((a3 + r : Nat) : Int))) none).run Tryz.prog W = .ok (.slice A' r c') W) ∧ Aside0 (∀ W, Kd.C (Kd.int .u8) W A s.length s → Kd.C (Kd.int .u8) W A' ((s.take (a3 + r)).drop a3).length ((s.take (a3 + r)).drop a3)) := by
              refine ⟨_, c - a3, fun W => ?_, ⟨fun W hW => Kd.C_mid (c := c) hW (by omega) (by omega) hsc⟩⟩
              have hq : (Tryz.prog.info? 5).map (fun i => i.size) = some 1 := by kernel_rfl
              obtain ⟨i, hi, hsz⟩ := Option.map_eq_some_iff.1 hq
              have := cut_mid (P := Tryz.prog) 25 5 .i64 .i64 Tryz.underlying25 hi 1 hsz A s.length c (a3 : Int) ((a3 + r : Nat) : Int) (by omega) (by omega) (by omega) hsc W
              rw [this]
              simp only [Int.toNat_natCast, show a3 + r - a3 = r by omega]
              rfl
            obtain ⟨L, hL⟩ : ∃ L, (s.take (a3 + r)).drop a3 = L := ⟨_, rfl⟩
            have hL' : L = s.drop a3 := by
              rw [← hL, List.take_of_length_le (by omega)]
            rw [hL] at hLl hCl
            clear hL
            obtain ⟨m, hm⟩ : ∃ m, a3 + r = m := ⟨_, rfl⟩
            rw [hm] at hw4 hsl
            have hm' : m = s.length := by omega
            have HM' := Aside0.mk hm'
            have HL' := Aside0.mk hL'
            have hrl : r ≤ s.length := by omega
            have HR' := Aside0.mk hr
            clear hm' hL' hr hm
            go_enter Tryz.func38, Tryz.ntmps38
            go_wp2_with fail
            refine H1.mono ?_
            rintro e w1 ⟨rfl, hi, ho⟩
            have A1 := Aside0.mk (AT0.out.only hBb hi ho)
            clear hi ho H1
            have h2 := H2.out w1 A1.out
            go_wp2_with fail
            refine h2.mono ?_
            rintro e w2 ⟨rfl, hi, ho⟩
            have A2 := Aside0.mk (A1.out.only hBb hi ho)
            clear hi ho h2
            have h3 := H3.out w2 A2.out
            go_wp2_with fail
            refine h3.mono ?_
            rintro e w3 ⟨rfl, hi, ho⟩
            have A3 := Aside0.mk (A2.out.only hBb hi ho)
            clear hi ho h3
            have c0 := A3.out.i.c0
            have c4 := A3.out.i.c4
            have c5 := A3.out.i.c5
            have z5 := A3.out.i.fz 5
            go_wp2_with fail
            go_region_held3 (fun W => W.cell? ⟨b, 0, none⟩ = some (.slice A s.length c) ∧ W.cell? ⟨b, 4, none⟩ = some (.int .i64 (a3 : Int))) (exact ⟨c0, c4⟩) (fail)
            go_wp2_with fail
            have AD : AtR w w3.drew.drew B b A s.length c e0 e1 e2 a3 dv D := ⟨A3.out.i, A3.out.r, A3.out.f, below_drew (below_drew A3.out.b)⟩
            have HAD := Aside0.mk AD
            have HC3 := Aside0.mk (hCl.out w3.drew.drew (HK1.out _ _ _ _ AD _ (Below.refl _ _)))
            have hsz : B ≤ w3.drew.drew.heap.size := Nat.le_trans hBw AD.b.size
            clear AD
            refine wp_region_noPanic ?_
            refine wp_region_held_drew (S := (fun W => W.cell? ⟨b, 0, none⟩ = some (.slice A s.length c) ∧ W.cell? ⟨b, 4, none⟩ = some (.int .i64 (a3 : Int)))) (by kernel_rfl) ?_ (fun hHeld => ?_)
            · exact ⟨c0, c4⟩
            refine take_at (i := 0) (take_d rfl) ?_
            intro h_i
            refine wpAnyH_take (v := ?_) h_i (by kernel_rfl) (by kernel_rfl) (by kernel_rfl) (fun _ _ _ h => h) (Or.inl ⟨by rfl, ?_⟩) (by assumption) ?_
            case refine_2 => (intro w hSw; (try dsimp only at hSw); go_simp; (try with_reducible rfl))
            clear h_i
            try simp only [Act.put, List.setIfInBounds_toArray, List.set_cons_zero, List.set_cons_succ]
            refine take_at (i := 1) (take_d rfl) ?_
            intro h_i
            refine wpAnyH_take (v := ?_) h_i (by kernel_rfl) (by kernel_rfl) (by kernel_rfl) (fun _ _ _ h => h) (Or.inl ⟨by rfl, ?_⟩) (by assumption) ?_
            case refine_2 => (intro w hSw; (try dsimp only at hSw); go_simp; (try with_reducible rfl))
            clear h_i
            try simp only [Act.put, List.setIfInBounds_toArray, List.set_cons_zero, List.set_cons_succ]
            refine take_at (i := 2) (take_d rfl) ?_
            intro h_i
            refine wpAnyH_take (v := ?_) h_i (by kernel_rfl) (by kernel_rfl) (by kernel_rfl) (fun _ _ _ h => h) (Or.inl ⟨by rfl, ?_⟩) (by assumption) ?_
            case refine_2 => (intro w hSw; (try dsimp only at hSw); go_simp; (try with_reducible rfl))
            clear h_i
            try simp only [Act.put, List.setIfInBounds_toArray, List.set_cons_zero, List.set_cons_succ]
            refine take_at (i := 3) (take_d rfl) ?_
            intro h_i
            refine wpAnyH_take (v := ?_) h_i (by kernel_rfl) (by kernel_rfl) (by kernel_rfl) (fun _ _ _ h => h) (Or.inl ⟨by rfl, ?_⟩) (by assumption) ?_
            case refine_2 => (intro w hSw; (try dsimp only at hSw); go_simp; (try with_reducible rfl))
            clear h_i
            try simp only [Act.put, List.setIfInBounds_toArray, List.set_cons_zero, List.set_cons_succ]
            refine take_at (i := 5) (take_d rfl) ?_
            intro h_i
            refine wpAnyH_take (v := ?_) h_i (by kernel_rfl) (by kernel_rfl) (by kernel_rfl) (fun _ _ _ h => h) (Or.inl ⟨by rfl, ?_⟩) (by assumption) ?_
            case refine_2 => (intro w hSw; (try dsimp only at hSw); go_simp; (try with_reducible rfl))
            clear h_i
            try simp only [Act.put, List.setIfInBounds_toArray, List.set_cons_zero, List.set_cons_succ]
            refine take_at (i := 6) (take_d rfl) ?_
            intro h_i
            refine wpAnyH_take (v := ?_) h_i (by kernel_rfl) (by kernel_rfl) (by kernel_rfl) (fun _ _ _ h => h) (Or.inl ⟨by rfl, ?_⟩) (by assumption) ?_
            case refine_2 => (intro w hSw; (try dsimp only at hSw); go_simp; (try with_reducible rfl))
            clear h_i
            try simp only [Act.put, List.setIfInBounds_toArray, List.set_cons_zero, List.set_cons_succ]
            refine take_at (i := 7) (take_d rfl) ?_
            intro h_i
            refine wpAnyH_take (v := ?_) h_i (by kernel_rfl) (by kernel_rfl) (by kernel_rfl) (fun _ _ _ h => h) (Or.inl ⟨by rfl, ?_⟩) (by assumption) ?_
            case refine_2 => (intro w hSw; (try dsimp only at hSw); go_simp; (try with_reducible rfl))
            clear h_i
            try simp only [Act.put, List.setIfInBounds_toArray, List.set_cons_zero, List.set_cons_succ]
            refine take_at (i := 8) (take_d rfl) ?_
            intro h_i
            refine wpAnyH_take (v := ?_) h_i (by kernel_rfl) (by kernel_rfl) (by kernel_rfl) (fun _ _ _ h => h) (Or.inl ⟨by rfl, ?_⟩) (by assumption) ?_
            case refine_2 => (intro w hSw; (try dsimp only at hSw); go_simp; (try with_reducible rfl))
            clear h_i
            try simp only [Act.put, List.setIfInBounds_toArray, List.set_cons_zero, List.set_cons_succ]
            refine take_at (i := 9) (take_d rfl) ?_
            intro h_i
            refine wpAnyH_take (v := ?_) h_i (by kernel_rfl) (by kernel_rfl) (by kernel_rfl) (fun _ _ _ h => h) (Or.inl ⟨by rfl, ?_⟩) (by assumption) ?_
            case refine_2 => (intro w hSw; (try dsimp only at hSw); go_simp; (try with_reducible rfl))
            clear h_i
            try simp only [Act.put, List.setIfInBounds_toArray, List.set_cons_zero, List.set_cons_succ]
            refine take_at (i := 10) (take_d rfl) ?_
            intro h_i
            refine wpAnyH_take (v := ?_) h_i (by kernel_rfl) (by kernel_rfl) (by kernel_rfl) (fun _ _ _ h => h) (Or.inl ⟨by rfl, ?_⟩) (by assumption) ?_
            case refine_2 => (intro w hSw; (try dsimp only at hSw); go_simp; (try with_reducible rfl))
            clear h_i
            try simp only [Act.put, List.setIfInBounds_toArray, List.set_cons_zero, List.set_cons_succ]
            refine take_at (i := 11) (take_d rfl) ?_
            intro h_i
            refine wpAnyH_take (v := ?_) h_i (by kernel_rfl) (by kernel_rfl) (by kernel_rfl) (fun _ _ _ h => h) (Or.inl ⟨by rfl, ?_⟩) (by assumption) ?_
            case refine_2 => (intro w hSw; (try dsimp only at hSw); go_simp; (try with_reducible rfl))
            clear h_i
            try simp only [Act.put, List.setIfInBounds_toArray, List.set_cons_zero, List.set_cons_succ]
            refine take_at (i := 12) (take_d rfl) ?_
            intro h_i
            refine wpAnyH_take (v := ?_) h_i (by kernel_rfl) (by kernel_rfl) (by kernel_rfl) (fun _ _ _ h => h) (Or.inl ⟨by rfl, ?_⟩) (by assumption) ?_
            case refine_2 => (intro w hSw; (try dsimp only at hSw); go_simp; (try with_reducible rfl))
            clear h_i
            try simp only [Act.put, List.setIfInBounds_toArray, List.set_cons_zero, List.set_cons_succ]
            refine take_at (i := 13) (take_d rfl) ?_
            intro h_i
            refine wpAnyH_take (v := ?_) h_i (by kernel_rfl) (by kernel_rfl) (by kernel_rfl) (fun _ _ _ h => h) (Or.inl ⟨by rfl, ?_⟩) (by assumption) ?_
            case refine_2 => (intro w hSw; (try dsimp only at hSw); go_simp; (try with_reducible rfl))
            clear h_i
            try simp only [Act.put, List.setIfInBounds_toArray, List.set_cons_zero, List.set_cons_succ]
            refine take_at (i := 14) (take_d rfl) ?_
            intro h_i
            refine wpAnyH_take (v := ?_) h_i (by kernel_rfl) (by kernel_rfl) (by kernel_rfl) (fun _ _ _ h => h) (Or.inl ⟨by rfl, ?_⟩) (by assumption) ?_
            case refine_2 => (intro w hSw; (try dsimp only at hSw); go_simp; (try with_reducible rfl))
            clear h_i
            try simp only [Act.put, List.setIfInBounds_toArray, List.set_cons_zero, List.set_cons_succ]
            refine take_at (i := 15) (take_d rfl) ?_
            intro h_i
            refine wpAnyH_take (v := ?_) h_i (by kernel_rfl) (by kernel_rfl) (by kernel_rfl) (fun _ _ _ h => h) (Or.inl ⟨by rfl, ?_⟩) (by assumption) ?_
            case refine_2 => (intro w hSw; (try dsimp only at hSw); go_simp; (try with_reducible rfl))
            clear h_i
            try simp only [Act.put, List.setIfInBounds_toArray, List.set_cons_zero, List.set_cons_succ]
            refine take_at (i := 16) (take_d rfl) ?_
            intro h_i
            refine wpAnyH_take (v := ?_) h_i (by kernel_rfl) (by kernel_rfl) (by kernel_rfl) (fun _ _ _ h => h) (Or.inl ⟨by rfl, ?_⟩) (by assumption) ?_
            case refine_2 => (intro w hSw; (try dsimp only at hSw); go_simp; (try with_reducible rfl))
            clear h_i
            try simp only [Act.put, List.setIfInBounds_toArray, List.set_cons_zero, List.set_cons_succ]
            refine take_at (i := 17) (take_d rfl) ?_
            intro h_i
            refine wpAnyH_take (v := ?_) h_i (by kernel_rfl) (by kernel_rfl) (by kernel_rfl) (fun _ _ _ h => h) (Or.inl ⟨by rfl, ?_⟩) (by assumption) ?_
            case refine_2 => (intro w hSw; (try dsimp only at hSw); go_simp; (try with_reducible rfl))
            clear h_i
            try simp only [Act.put, List.setIfInBounds_toArray, List.set_cons_zero, List.set_cons_succ]
            refine take_at (i := 18) (take_d rfl) ?_
            intro h_i
            refine wpAnyH_take (v := ?_) h_i (by kernel_rfl) (by kernel_rfl) (by kernel_rfl) (fun _ _ _ h => h) (Or.inl ⟨by rfl, ?_⟩) (by assumption) ?_
            case refine_2 => (intro w hSw; (try dsimp only at hSw); go_simp; (try with_reducible rfl))
            clear h_i
            try simp only [Act.put, List.setIfInBounds_toArray, List.set_cons_zero, List.set_cons_succ]
            refine take_at (i := 19) (take_d rfl) ?_
            intro h_i
            refine wpAnyH_take (v := ?_) h_i (by kernel_rfl) (by kernel_rfl) (by kernel_rfl) (fun _ _ _ h => h) (Or.inl ⟨by rfl, ?_⟩) (by assumption) ?_
            case refine_2 => (intro w hSw; (try dsimp only at hSw); go_simp; (try with_reducible rfl))
            clear h_i
            try simp only [Act.put, List.setIfInBounds_toArray, List.set_cons_zero, List.set_cons_succ]
            refine take_at (i := 20) (take_d rfl) ?_
            intro h_i
            refine wpAnyH_take (v := ?_) h_i (by kernel_rfl) (by kernel_rfl) (by kernel_rfl) (fun _ _ _ h => h) (Or.inl ⟨by rfl, ?_⟩) (by assumption) ?_
            case refine_2 => (intro w hSw; (try dsimp only at hSw); go_simp; (try with_reducible rfl))
            clear h_i
            try simp only [Act.put, List.setIfInBounds_toArray, List.set_cons_zero, List.set_cons_succ]
            refine wpAnyH_ready (rs := [4]) (by kernel_rfl) (by simp) ?_
            refine AllReadyH.cons (take_d rfl) (fun zK hK => ?_) AllReadyH.nil
            go_simp
            skip
            refine hK.out _ _ ?_ (fun hHeld2 => ?_)
            · exact hHeld
            clear hK zK hHeld
            have hHeld := hHeld2
            clear hHeld2
            try simp only [Act.put, List.setIfInBounds_toArray, List.set_cons_zero, List.set_cons_succ]
            refine wpAnyH_ready (rs := [21]) (by kernel_rfl) (by simp) ?_
            refine AllReadyH.cons (take_d rfl) (fun zK hK => ?_) AllReadyH.nil
            (rw [if_pos (by rfl)]; refine wp_plusB (W0 := w3.drew.drew) B _ _ 25 (.int .u8 0) rfl Tryz.underlying25 (by kernel_rfl) (by rfl) dv D L A' c' rfl (by rw [hLl]; rfl) HAD.out.r HC3.out (Below.refl _ _) hsz (by omega) ?_; intro v1 w4 hv hb hz hk; obtain ⟨A1, k1, q1, _, _⟩ := hv.reads; rw [List.length_append, hLl] at q1; subst q1; have hI4 : IsR w4 b A s.length c e0 e1 e2 a3 dv := hk b _ HAD.out.i (fun e => HAD.out.i.not_row HAD.out.r e.symm); have n0 := hI4.c0; have n4 := hI4.c4; have n5 := hI4.c5; have y5 := hI4.fz 5; have o0 := (hI4.s5 (.slice A1 (D.length + r) k1)).c0; have o4 := (hI4.s5 (.slice A1 (D.length + r) k1)).c4; have AT5 := Aside0.mk (HAD.out.then hBb hv hb hk); clear hv hb hk hI4)
            refine hK.out _ _ ?_ (fun hHeld2 => ?_)
            · exact ⟨n0, n4⟩
            clear hK zK hHeld
            have hHeld := hHeld2
            clear hHeld2
            try simp only [Act.put, List.setIfInBounds_toArray, List.set_cons_zero, List.set_cons_succ]
            refine take_at (i := 22) (take_d rfl) ?_
            intro h_i
            refine wpAnyH_take (v := ?_) h_i (by kernel_rfl) (by kernel_rfl) (by kernel_rfl) (fun _ _ _ h => h) (Or.inl ⟨by rfl, ?_⟩) (by assumption) ?_
            case refine_2 => (intro w hSw; (try dsimp only at hSw); go_simp; (try with_reducible rfl))
            clear h_i
            try simp only [Act.put, List.setIfInBounds_toArray, List.set_cons_zero, List.set_cons_succ]
            refine take_at (i := 23) (take_d rfl) ?_
            intro h_i
            refine wpAnyH_take (v := ?_) h_i (by kernel_rfl) (by kernel_rfl) (by kernel_rfl) (fun _ _ _ h => h) (Or.inl ⟨by rfl, ?_⟩) (by assumption) ?_
            case refine_2 => (intro w hSw; (try dsimp only at hSw); go_simp; (try with_reducible rfl))
            clear h_i
            try simp only [Act.put, List.setIfInBounds_toArray, List.set_cons_zero, List.set_cons_succ]
            refine wpAnyH_ready (rs := [24]) (by kernel_rfl) (by simp) ?_
            refine AllReadyH.cons (take_d rfl) (fun zK hK => ?_) AllReadyH.nil
            go_simp
            skip
            refine hK.out _ _ ?_ (fun hHeld2 => ?_)
            · exact ⟨o0, o4⟩
            clear hK zK hHeld
            have hHeld := hHeld2
            clear hHeld2
            try simp only [Act.put, List.setIfInBounds_toArray, List.set_cons_zero, List.set_cons_succ]
            refine wpAnyH_done (by kernel_rfl) ?_ _
            refine NoPanic.normal ?_
            generalize w4.setCell ⟨b, 5, none⟩ (.slice A1 (D.length + r) k1) = w5 at *
            have d4 := AT5.out.i.c4
            have x4 := AT5.out.i.fz 4
            go_wp2_with fail
            have AT6 := Aside0.mk (AT5.out.set4 hBb m)
            generalize w5.setCell ⟨b, 4, none⟩ (.int .i64 (m : Int)) = w6 at *
            refine (must_off b m 4 w6 AT6.out.i.c4).mono ?_
            rintro e w7 ⟨rfl, rfl⟩
            refine ⟨rfl, ?_⟩
            have eM := HM'.out
            have eL := HL'.out
            subst eM
            subst eL
            exact ⟨_, AT6.out.r, ⟨AT6.out.b, AT6.out.f⟩, rfl, AT6.out.i⟩
end Go.Proofs.YtmmbpbgcobmifaaGreatDoorH
end
section
namespace Go.Proofs.YtmmbpbgcobmifaaGreatDoorH
set_option linter.unusedVariables false
set_option linter.unusedSimpArgs false
open Go Go.RowKit Go.Proofs.YtmmbpbgcobmifaaGreatDoorW.PrintWords Go.Proofs.YtmmbpbgcobmifaaGreatDoorW.PrintLast Go.Proofs.YtmmbpbgcobmifaaGreatDoorW.PrintMore
def zeroBody : Array Value := #[.slice none 0 0, .slice none 0 0, .int .i64 0]
set_option maxHeartbeats 1600000 in
set_option maxRecDepth 100000 in
theorem catch_idle (p q : Addr) (w : World) :
    CallsD Tryz.prog 37 #[.pointer (some p), .pointer (some q)] .returning w fun e u' w' => e = .returned (.tuple #[]) ∧ u' = .returning ∧ w' = w := by
  refine callsD_of_wpS Tryz.func37 rfl fun c₀ cs hu => ?_
  apply wpS_seq
  apply wpS_region
  simp [wpOpsS, go_sem, recoverD, hu, Tryz.ntmps37, Exit.thenS]
  apply wpS_seq
  apply wpS_region
  simp [wpOpsS, go_sem, recoverD, hu, Tryz.ntmps37, Exit.thenS]
  refine wpS_cond (t := false) (by simp [Act.eval, Array.replicate]) ?_
  simp only [Bool.false_eq_true, if_false]
  refine wpS_of_wp (wp_skip ?_)
  cases c₀
  simp_all [bodyPostS, results]
theorem setB (bB : Nat) (v0 v1 v2 : Value) (w : World) (hB : w.heap[bB]? = some (.cells #[v0, v1, v2] 42 (0, 0))) :
    ∃ W, ((w.setCell ⟨bB, 0, none⟩ (.slice none 0 0)).setCell ⟨bB, 1, none⟩ (.slice none 0 0)).setCell ⟨bB, 2, none⟩ (.int .i64 0) = W ∧
      W.heap[bB]? = some (.cells zeroBody 42 (0, 0)) ∧ Below bB w W ∧ (∀ k, ¬ k = bB → W.heap[k]? = w.heap[k]?) := by
  have h1 := blk_set hB 0 (.slice none 0 0)
  have h2 := blk_set h1 1 (.slice none 0 0)
  have h3 := blk_set h2 2 (.int .i64 0)
  refine ⟨_, rfl, h3, ?_, ?_⟩
  · exact (((Below.refl _ _).setCell (p := ⟨bB, 0, none⟩) (Nat.le_refl _) _).setCell (p := ⟨bB, 1, none⟩) (Nat.le_refl _) _).setCell (p := ⟨bB, 2, none⟩) (Nat.le_refl _) _
  · intro k h
    rw [Below.heap_setCell _ ⟨bB, 2, none⟩ _ k h, Below.heap_setCell _ ⟨bB, 1, none⟩ _ k h, Below.heap_setCell _ ⟨bB, 0, none⟩ _ k h]
theorem setE (bE : Nat) (u0 u1 : Value) (a er : Int) (w : World) (hE : w.heap[bE]? = some (.cells #[u0, u1] 74 (0, 0))) :
    ∃ W, (w.setCell ⟨bE, 0, none⟩ (.int .i64 a)).setCell ⟨bE, 1, none⟩ (.int .i64 er) = W ∧
      W.heap[bE]? = some (.cells #[.int .i64 a, .int .i64 er] 74 (0, 0)) ∧ Below bE w W ∧ (∀ k, ¬ k = bE → W.heap[k]? = w.heap[k]?) := by
  have h1 := blk_set hE 0 (.int .i64 a)
  have h2 := blk_set h1 1 (.int .i64 er)
  refine ⟨_, rfl, h2, ?_, ?_⟩
  · exact ((Below.refl _ _).setCell (p := ⟨bE, 0, none⟩) (Nat.le_refl _) _).setCell (p := ⟨bE, 1, none⟩) (Nat.le_refl _) _
  · intro k h
    rw [Below.heap_setCell _ ⟨bE, 1, none⟩ _ k h, Below.heap_setCell _ ⟨bE, 0, none⟩ _ k h]
set_option maxHeartbeats 1600000 in
set_option maxRecDepth 100000 in
theorem catch_panicking (bB bE : Nat) (hne : bB ≠ bE) (v0 v1 v2 u0 u1 : Value) (a er : Int) (older : List PanicEntry) (w : World)
    (hB : w.heap[bB]? = some (.cells #[v0, v1, v2] 42 (0, 0))) (hE : w.heap[bE]? = some (.cells #[u0, u1] 74 (0, 0))) :
    CallsD Tryz.prog 37 #[.pointer (some ⟨bB, 0, none⟩), .pointer (some ⟨bE, 0, none⟩)] (.panicking ({ v := .iface 74 (.agg #[.int .i64 a, .int .i64 er]), recovered := false } :: older)) w fun e u' w' =>
      e = .returned (.tuple #[]) ∧ u' = .panicking ({ v := .iface 74 (.agg #[.int .i64 a, .int .i64 er]), recovered := true } :: older) ∧
      w'.heap[bB]? = some (.cells zeroBody 42 (0, 0)) ∧ w'.heap[bE]? = some (.cells #[.int .i64 a, .int .i64 er] 74 (0, 0)) ∧ Below (min bB bE) w w' ∧ (∀ k, k ≠ bB → k ≠ bE → w'.heap[k]? = w.heap[k]?) := by
  have hta : ∀ W : World, (Instr.typeAssert (.iface 74 (.agg #[.int .i64 a, .int .i64 er])) 20 74 false).run Tryz.prog W = .ok (.agg #[.int .i64 a, .int .i64 er]) W := fun _ => by kernel_rfl
  have k0 : w.cell? ⟨bB, 0, none⟩ = some v0 := (blk_cell hB 0).trans rfl
  have k1 : w.cell? ⟨bB, 1, none⟩ = some v1 := (blk_cell hB 1).trans rfl
  have k2 : w.cell? ⟨bB, 2, none⟩ = some v2 := (blk_cell hB 2).trans rfl
  have l0 : w.cell? ⟨bE, 0, none⟩ = some u0 := (blk_cell hE 0).trans rfl
  have l1 : w.cell? ⟨bE, 1, none⟩ = some u1 := (blk_cell hE 1).trans rfl
  have fz : w.frozen? ⟨bB, 0, none⟩ = false := blk_frozen hB 0
  have fz1 : w.frozen? ⟨bB, 1, none⟩ = false := blk_frozen hB 1
  have fz2 : w.frozen? ⟨bB, 2, none⟩ = false := blk_frozen hB 2
  have fy1 : w.frozen? ⟨bE, 1, none⟩ = false := blk_frozen hE 1
  have fy : w.frozen? ⟨bE, 0, none⟩ = false := blk_frozen hE 0
  obtain ⟨W1, q1, f1, b1, o1⟩ := setB bB v0 v1 v2 w hB
  obtain ⟨W2, q2, f2, b2, o2⟩ := setE bE u0 u1 a er W1 ((o1 bE (fun e => hne e.symm)).trans hE)
  obtain ⟨W3, q3, f3, b3, o3⟩ := setE bE u0 u1 a er w hE
  obtain ⟨W4, q4, f4, b4, o4⟩ := setB bB v0 v1 v2 W3 ((o3 bB hne).trans hB)
  have Q1 := Aside0.mk q1
  have Q2 := Aside0.mk q2
  have Q3 := Aside0.mk q3
  have Q4 := Aside0.mk q4
  have HF2 := Aside0.mk (show W2.drew.heap[bB]? = some (.cells zeroBody 42 (0, 0)) ∧ W2.drew.heap[bE]? = some (.cells #[.int .i64 a, .int .i64 er] 74 (0, 0)) ∧ Below (min bB bE) w W2.drew ∧ (∀ k, ¬ k = bB → ¬ k = bE → W2.drew.heap[k]? = w.heap[k]?) from
    ⟨(o2 bB hne).trans f1, f2, below_drew ((b1.mono (Nat.min_le_left _ _)).trans (b2.mono (Nat.min_le_right _ _))), fun k h1 h2 => (o2 k h2).trans (o1 k h1)⟩)
  have HF4 := Aside0.mk (show W4.drew.heap[bB]? = some (.cells zeroBody 42 (0, 0)) ∧ W4.drew.heap[bE]? = some (.cells #[.int .i64 a, .int .i64 er] 74 (0, 0)) ∧ Below (min bB bE) w W4.drew ∧ (∀ k, ¬ k = bB → ¬ k = bE → W4.drew.heap[k]? = w.heap[k]?) from
    ⟨f4, (o4 bE (fun e => hne e.symm)).trans f3, below_drew ((b3.mono (Nat.min_le_right _ _)).trans (b4.mono (Nat.min_le_left _ _))), fun k h1 h2 => (o4 k h1).trans (o3 k h2)⟩)
  clear q1 q2 q3 q4 f1 f2 f3 f4 b1 b2 b3 b4 o1 o2 o3 o4
  refine callsD_of_wpS Tryz.func37 rfl fun c₀ cs hu => ?_
  apply wpS_seq
  apply wpS_region
  simp [wpOpsS, go_sem, recoverD, hu, Tryz.ntmps37, Exit.thenS]
  apply wpS_seq
  apply wpS_region
  simp [wpOpsS, go_sem, recoverD, hu, Tryz.ntmps37, Exit.thenS]
  refine wpS_cond (t := true) (by simp [Act.eval, Array.replicate]) ?_
  simp only [if_true]
  refine wpS_of_wp ?_
  simp only [List.size_toArray, List.length_cons, List.length_nil, Nat.reduceAdd, Nat.reduceSub, Array.replicate_succ, Array.replicate_zero, List.push_toArray, List.append_toArray, List.nil_append, List.cons_append, List.setIfInBounds_toArray, List.set_cons_zero, List.set_cons_succ]
  go_region_held3 (fun _ => True) (trivial) (fail)
  all_goals
    cases c₀
    first
      | (rw [Q1.out, Q2.out]; simp [bodyPostS, results]; exact HF2.out)
      | (rw [Q3.out, Q4.out]; simp [bodyPostS, results]; exact HF4.out)
end Go.Proofs.YtmmbpbgcobmifaaGreatDoorH
end
section
namespace Go.Proofs.YtmmbpbgcobmifaaGreatDoorH
open Go Go.RowKit Go.Proofs.YtmmbpbgcobmifaaGreatDoorW.PrintWords Go.Proofs.YtmmbpbgcobmifaaGreatDoorW.PrintLast Go.Proofs.YtmmbpbgcobmifaaGreatDoorW.PrintMore
theorem sizeL_gt {s : List Int} : ∀ (f a n g : Nat) {m a1 : Nat}, sizeL f s a n g = .ok (m, a1) → a ≤ a1 ∧ (g = 0 → a < a1)
  | 0, a, n, g, m, a1, h => by cases h
  | f + 1, a, n, g, m, a1, h => by
    unfold sizeL at h
    split at h
    · split at h
      · split at h
        · cases h
          exact ⟨Nat.le_refl _, by omega⟩
        · cases h
      · split at h
        · have := sizeL_gt f _ _ _ h
          exact ⟨by omega, by omega⟩
        · cases h
    · cases h
theorem extL_ge {s : List Int} {e0 : Int} : ∀ (f a n : Nat) {u : Unit} {a1 : Nat}, extL f s e0 a n = .ok (u, a1) → a ≤ a1
  | 0, a, n, u, a1, h => by cases h; exact Nat.le_refl _
  | f + 1, a, n, u, a1, h => by
    unfold extL at h
    split at h
    · split at h
      · split at h
        · have := extL_ge f _ _ h
          omega
        · cases h
      · cases h
        exact Nat.le_refl _
    · cases h
theorem extM_ge {s : List Int} {e0 : Int} {a : Nat} {u : Unit} {a1 : Nat} (h : extM s e0 a = .ok (u, a1)) : a ≤ a1 := by
  unfold extM at h
  split at h
  · split at h
    · exact extL_ge _ _ _ h
    · cases h
      exact Nat.le_refl _
  · cases h
theorem byteM_ge {s : List Int} {c : Int} {a : Nat} {u : Unit} {a1 : Nat} (h : byteM s c a = .ok (u, a1)) : a1 = a + 1 := by
  unfold byteM at h
  split at h
  · split at h
    · cases h
      rfl
    · cases h
  · cases h
theorem endM_ge {s : List Int} {a : Nat} {u : Unit} {a1 : Nat} (h : endM s a = .ok (u, a1)) : a1 = a + 2 := by
  unfold endM at h
  split at h
  · rename_i h1
    have := byteM_ge h1
    have := byteM_ge h
    omega
  · cases h
theorem chunkM_gt {s : List Int} (hs : ByteL s) {e0 : Int} {a : Nat} (ha : a ≤ s.length) {x : Bool} {a1 : Nat} (h : (chunkM s e0 a).1 = .ok (x, a1)) : a < a1 ∧ a1 ≤ s.length := by
  unfold chunkM at h
  split at h
  · cases h
  rename_i h1
  have g1 := (sizeL_gt _ _ _ _ h1).2 rfl
  have l1 := sizeM_le hs h1 ha
  split at h
  · cases h
  rename_i h2
  have g2 := extM_ge h2
  have l2 := extM_le h2 l1.1
  split at h
  · cases h
  rename_i h3
  have g3 := endM_ge h3
  have l3 := endM_le h3
  split at h
  · cases h
    omega
  split at h
  · unfold tailM at h
    split at h
    · cases h
    · rename_i h4
      have g4 := endM_ge h4
      have l4 := endM_le h4
      cases h
      omega
  · cases h
def chunksM : Nat → List Int → Int → Nat → List Int → RM Unit × List Int
  | 0, _, _, a, D => (.error (a, 4), D)
  | f + 1, s, e0, a, D =>
    match chunkM s e0 a with
    | (.error x, d) => (.error x, D ++ d)
    | (.ok (true, a1), d) => chunksM f s e0 a1 (D ++ d)
    | (.ok (false, a1), d) => (.ok ((), a1), D ++ d)
theorem chunkM_data {s : List Int} {e0 : Int} {a : Nat} {x : Bool} {a1 : Nat} (h : (chunkM s e0 a).1 = .ok (x, a1)) : (chunkM s e0 a).2.length + a ≤ a1 := by
  have hl : ∀ (i j : Nat), ((s.take i).drop j).length ≤ i - j := fun i j => by rw [List.length_drop, List.length_take]; omega
  unfold chunkM at h ⊢
  cases h1 : sizeM s a with
  | error y => rw [h1] at h; cases h
  | ok y =>
    obtain ⟨n, b1⟩ := y
    have g1 := (sizeL_gt _ _ _ _ h1).2 rfl
    simp only [h1] at h ⊢
    cases h2 : extM s e0 b1 with
    | error y => rw [h2] at h; cases h
    | ok y =>
      obtain ⟨u, b2⟩ := y
      have g2 := extM_ge h2
      simp only [h2] at h ⊢
      cases h3 : endM s b2 with
      | error y => rw [h3] at h; cases h
      | ok y =>
        obtain ⟨u, b3⟩ := y
        have g3 := endM_ge h3
        simp only [h3] at h ⊢
        by_cases h0 : n = 0
        · rw [if_pos h0] at h ⊢
          cases h
          show 0 + a ≤ _
          omega
        · rw [if_neg h0] at h ⊢
          by_cases hle : n ≤ s.length - b3
          · rw [if_pos hle] at h ⊢
            unfold tailM at h ⊢
            cases h4 : endM s (b3 + n) with
            | error y => rw [h4] at h; cases h
            | ok y =>
              obtain ⟨u, b4⟩ := y
              have g4 := endM_ge h4
              simp only [h4] at h ⊢
              cases h
              have := hl (b3 + n) b3
              omega
          · rw [if_neg hle] at h
            cases h
def atOf (b : Nat) (W : World) : Nat := match W.cell? ⟨b, 4, none⟩ with
  | some v => (intOf v).toNat
  | none => 0
theorem AtR.atOf {w W : World} {B b : Nat} {A : Option Addr} {n c : Nat} {e0 e1 e2 : Int} {a : Nat} {dv : Value} {D : List Int} (h : AtR w W B b A n c e0 e1 e2 a dv D) : atOf b W = a := by
  unfold Proofs.YtmmbpbgcobmifaaGreatDoorH.atOf
  rw [h.i.c4]
  simp [intOf]
theorem AtR.leave {w w0 w2 w3 : World} {B b : Nat} {A : Option Addr} {n c : Nat} {e0 e1 e2 : Int} {a : Nat} {dv : Value} {D : List Int} {cs1 cs2 : Array Value} {t1 t2 : TypeId} (hA : AtR w0 w2 B b A n c e0 e1 e2 a dv D) (hb0 : Below w.heap.size w w0) (hBw : B ≤ w.heap.size) (hlt : b < w.heap.size)
    (h1 : w2.heap[w.heap.size]? = some (.cells cs1 t1 (0, 0))) (h2 : w2.heap[w.heap.size + 1]? = some (.cells cs2 t2 (0, 0))) (ht1 : t1 ≠ 5) (ht2 : t2 ≠ 5)
    (hb : Below (min w.heap.size (w.heap.size + 1)) w2 w3) (ho : ∀ k, ¬ k = w.heap.size → ¬ k = w.heap.size + 1 → w3.heap[k]? = w2.heap[k]?) : AtR w w3 B b A n c e0 e1 e2 a dv D := by
  refine ⟨(ho b (by omega) (by omega)).trans hA.i, hA.r.move fun k hk => ?_, fun k cs t ht hk hc => ?_, ((hb0.mono hBw).trans hA.b).trans (hb.mono (by omega))⟩
  · obtain ⟨_, cs, hc⟩ := hA.r.at k hk
    refine ho k (fun e => ?_) (fun e => ?_)
    · subst e
      have := hc.symm.trans h1
      injection this with this
      injection this with _ h
      exact ht1 h.symm
    · subst e
      have := hc.symm.trans h2
      injection this with this
      injection this with _ h
      exact ht2 h.symm
  · have hk2 := blk_lt hc
    exact (ho k (by omega) (by omega)).trans (hA.f k cs t ht hk ((hb0.block k hk2).trans hc))
theorem results_rows2 {P : Program} {fn : Func} {p q : Tmp} {t1 t2 : TypeId} (h : fn.results = #[.cell p t1, .cell q t2]) (tmps : Array Value) (w : World) (g1 g2 : Nat) (cs1 cs2 : Array Value) (d1 d2 : TypeDesc)
    (hp : tmps.getD p undef = .pointer (some ⟨g1, 0, none⟩)) (hq : tmps.getD q undef = .pointer (some ⟨g2, 0, none⟩)) (h1 : w.heap[g1]? = some (.cells cs1 t1 (0, 0))) (h2 : w.heap[g2]? = some (.cells cs2 t2 (0, 0)))
    (hu1 : P.underlying t1 = some d1) (hd1 : (match d1 with | .struct _ | .array _ _ => true | _ => false) = true) (hi1 : (P.info? t1).map (·.size) = some cs1.size)
    (hu2 : P.underlying t2 = some d2) (hd2 : (match d2 with | .struct _ | .array _ _ => true | _ => false) = true) (hi2 : (P.info? t2).map (·.size) = some cs2.size) :
    (results fn tmps).run P w = .ok (.tuple #[.agg cs1, .agg cs2]) w := by
  have hp' : tmps[p]?.getD undef = .pointer (some ⟨g1, 0, none⟩) := by simpa using hp
  have hq' : tmps[q]?.getD undef = .pointer (some ⟨g2, 0, none⟩) := by simpa using hq
  simp [results, h, hp', hq', asAddr, run_loadVar_row w g1 t1 t1 cs1 (0, 0) d1 h1 hu1 hd1 hi1, run_loadVar_row w g2 t2 t2 cs2 (0, 0) d2 h2 hu2 hd2 hi2]
theorem farB {b bB : Nat} (h1 : ¬ b = bB) (w : World) (v0 v1 v2 x y : Value) (h4 : w.cell? ⟨b, 4, none⟩ = some x) (h5 : w.cell? ⟨b, 5, none⟩ = some y) :
    (((w.setCell ⟨bB, 0, none⟩ v0).setCell ⟨bB, 1, none⟩ v1).setCell ⟨bB, 2, none⟩ v2).drew.cell? ⟨b, 4, none⟩ = some x ∧
    (((w.setCell ⟨bB, 0, none⟩ v0).setCell ⟨bB, 1, none⟩ v1).setCell ⟨bB, 2, none⟩ v2).drew.cell? ⟨b, 5, none⟩ = some y := by
  have a1 : bB ≠ b := fun e => h1 e.symm
  have q : ∀ j : Nat, (((w.setCell ⟨bB, 0, none⟩ v0).setCell ⟨bB, 1, none⟩ v1).setCell ⟨bB, 2, none⟩ v2).cell? ⟨b, j, none⟩ = w.cell? ⟨b, j, none⟩ := fun j =>
    ((World.cell?_setCell_far _ ⟨bB, 2, none⟩ ⟨b, j, none⟩ v2 a1).trans (World.cell?_setCell_far _ ⟨bB, 1, none⟩ ⟨b, j, none⟩ v1 a1)).trans (World.cell?_setCell_far w ⟨bB, 0, none⟩ ⟨b, j, none⟩ v0 a1)
  exact ⟨(q 4).trans h4, (q 5).trans h5⟩
theorem farE {b bB bE : Nat} (h1 : ¬ b = bB) (h2 : ¬ b = bE) (w : World) (v0 v1 v2 u0 u1 x y : Value) (h4 : w.cell? ⟨b, 4, none⟩ = some x) (h5 : w.cell? ⟨b, 5, none⟩ = some y) :
    (((((w.setCell ⟨bB, 0, none⟩ v0).setCell ⟨bB, 1, none⟩ v1).setCell ⟨bB, 2, none⟩ v2).setCell ⟨bE, 0, none⟩ u0).setCell ⟨bE, 1, none⟩ u1).drew.cell? ⟨b, 4, none⟩ = some x ∧
    (((((w.setCell ⟨bB, 0, none⟩ v0).setCell ⟨bB, 1, none⟩ v1).setCell ⟨bB, 2, none⟩ v2).setCell ⟨bE, 0, none⟩ u0).setCell ⟨bE, 1, none⟩ u1).drew.cell? ⟨b, 5, none⟩ = some y := by
  have a2 : bE ≠ b := fun e => h2 e.symm
  have q := farB h1 w v0 v1 v2 x y h4 h5
  generalize ((w.setCell ⟨bB, 0, none⟩ v0).setCell ⟨bB, 1, none⟩ v1).setCell ⟨bB, 2, none⟩ v2 = W at *
  have r : ∀ j : Nat, ((W.setCell ⟨bE, 0, none⟩ u0).setCell ⟨bE, 1, none⟩ u1).cell? ⟨b, j, none⟩ = W.cell? ⟨b, j, none⟩ := fun j =>
    (World.cell?_setCell_far _ ⟨bE, 1, none⟩ ⟨b, j, none⟩ u1 a2).trans (World.cell?_setCell_far W ⟨bE, 0, none⟩ ⟨b, j, none⟩ u0 a2)
  exact ⟨(r 4).trans q.1, (r 5).trans q.2⟩
theorem setBE (bB bE : Nat) (hne : ¬ bB = bE) (x0 x1 x2 y0 y1 : Value) (w : World) (v0 v1 v2 u0 u1 : Value) (hB : w.heap[bB]? = some (.cells #[v0, v1, v2] 42 (0, 0))) (hE : w.heap[bE]? = some (.cells #[u0, u1] 74 (0, 0))) :
    (((((w.setCell ⟨bB, 0, none⟩ x0).setCell ⟨bB, 1, none⟩ x1).setCell ⟨bB, 2, none⟩ x2).setCell ⟨bE, 0, none⟩ y0).setCell ⟨bE, 1, none⟩ y1).drew.heap[bB]? = some (.cells #[x0, x1, x2] 42 (0, 0)) ∧
    (((((w.setCell ⟨bB, 0, none⟩ x0).setCell ⟨bB, 1, none⟩ x1).setCell ⟨bB, 2, none⟩ x2).setCell ⟨bE, 0, none⟩ y0).setCell ⟨bE, 1, none⟩ y1).drew.heap[bE]? = some (.cells #[y0, y1] 74 (0, 0)) ∧
    Below (min bB bE) w (((((w.setCell ⟨bB, 0, none⟩ x0).setCell ⟨bB, 1, none⟩ x1).setCell ⟨bB, 2, none⟩ x2).setCell ⟨bE, 0, none⟩ y0).setCell ⟨bE, 1, none⟩ y1).drew ∧
    (∀ k, ¬ k = bB → ¬ k = bE → (((((w.setCell ⟨bB, 0, none⟩ x0).setCell ⟨bB, 1, none⟩ x1).setCell ⟨bB, 2, none⟩ x2).setCell ⟨bE, 0, none⟩ y0).setCell ⟨bE, 1, none⟩ y1).drew.heap[k]? = w.heap[k]?) := by
  have h1 := blk_set hB 0 x0
  have h2 := blk_set h1 1 x1
  have h3 := blk_set h2 2 x2
  have o3 : ∀ k, ¬ k = bB → (((w.setCell ⟨bB, 0, none⟩ x0).setCell ⟨bB, 1, none⟩ x1).setCell ⟨bB, 2, none⟩ x2).heap[k]? = w.heap[k]? := fun k h => by
    rw [Below.heap_setCell _ ⟨bB, 2, none⟩ _ k h, Below.heap_setCell _ ⟨bB, 1, none⟩ _ k h, Below.heap_setCell _ ⟨bB, 0, none⟩ _ k h]
  have b3 : Below (min bB bE) w (((w.setCell ⟨bB, 0, none⟩ x0).setCell ⟨bB, 1, none⟩ x1).setCell ⟨bB, 2, none⟩ x2) :=
    (((Below.refl _ _).setCell (p := ⟨bB, 0, none⟩) (Nat.min_le_left _ _) _).setCell (p := ⟨bB, 1, none⟩) (Nat.min_le_left _ _) _).setCell (p := ⟨bB, 2, none⟩) (Nat.min_le_left _ _) _
  have hE3 := (o3 bE (fun e => hne e.symm)).trans hE
  generalize ((w.setCell ⟨bB, 0, none⟩ x0).setCell ⟨bB, 1, none⟩ x1).setCell ⟨bB, 2, none⟩ x2 = W at *
  have g1 := blk_set hE3 0 y0
  have g2 := blk_set g1 1 y1
  have o5 : ∀ k, ¬ k = bE → ((W.setCell ⟨bE, 0, none⟩ y0).setCell ⟨bE, 1, none⟩ y1).heap[k]? = W.heap[k]? := fun k h => by
    rw [Below.heap_setCell _ ⟨bE, 1, none⟩ _ k h, Below.heap_setCell _ ⟨bE, 0, none⟩ _ k h]
  refine ⟨(o5 bB hne).trans h3, g2, below_drew ((b3.setCell (p := ⟨bE, 0, none⟩) (Nat.min_le_right _ _) _).setCell (p := ⟨bE, 1, none⟩) (Nat.min_le_right _ _) _), fun k h1 h2 => (o5 k h2).trans (o3 k h1)⟩
def DoesS {α : Type} (w : World) (B b : Nat) (A : Option Addr) (n c : Nat) (e0 e1 e2 : Int) (RL : World → Value → α → Prop) (m : RM α) (D : List Int) (e : Ending) (w' : World) : Prop :=
  ∃ dv, match m with
  | .ok (l, a) => ∃ v, RL w' v l ∧ e = .returned (.tuple #[.agg #[dv, v, .int .i64 (a : Int)], .agg #[.int .i64 (a : Int), .int .i64 0]]) ∧ AtR w w' B b A n c e0 e1 e2 a dv D
  | .error (a, er) => e = .returned (.tuple #[.agg zeroBody, .agg #[.int .i64 (a : Int), .int .i64 er]]) ∧ AtR w w' B b A n c e0 e1 e2 a dv D
def scannedM {α : Type} (secM : Nat → RM α) (s : List Int) (e0 : Int) : RM α × List Int :=
  match chunksM (s.length + 1) s e0 0 [] with
  | (.error x, D) => (.error x, D)
  | (.ok (_, a), D) => (secM a, D)
set_option maxHeartbeats 4000000 in
set_option maxRecDepth 100000 in
theorem scanned_try {α : Type} (B b : Nat) (A : Option Addr) (c : Nat) (e0 e1 e2 : Int) (s : List Int) (w : World) (h : IsR w b A s.length c e0 e1 e2 0 (.slice none 0 0)) (hBb : B ≤ b) (hBw : B ≤ w.heap.size) (hC : Keeps B w fun W => Kd.C (Kd.int .u8) W A s.length s ∧ TabOk W) (hs : ByteL s) (hl : s.length ≤ 1073741824) (hsc : s.length ≤ c)
    (RL : World → Value → α → Prop) (secM : Nat → RM α)
    (hSec : ∀ (w1 W : World) (a : Nat) (dv : Value) (D : List Int), Below B w w1 → AtR w1 W B b A s.length c e0 e1 e2 a dv D → a ≤ s.length → Calls Tryz.prog 39 #[.pointer (some ⟨b, 0, none⟩)] W fun e w' => match secM a with
      | .ok (l, a1) => ∃ A' n' c', e = .returned (.slice A' n' c') ∧ RL w' (.slice A' n' c') l ∧ AtR W w' B b A s.length c e0 e1 e2 a1 dv D
      | .error (a1, er) => e = gaveUp a1 er ∧ AtR W w' B b A s.length c e0 e1 e2 a1 dv D)
    (hRL : ∀ (W W' : World) (v : Value) (l : α) (bB bE : Nat) (cs1 cs2 : Array Value), RL W v l → W.heap[bB]? = some (.cells cs1 42 (0, 0)) → W.heap[bE]? = some (.cells cs2 74 (0, 0)) → (∀ k, ¬ k = bB → ¬ k = bE → W'.heap[k]? = W.heap[k]?) → RL W' v l) :
    Calls Tryz.prog 23 #[.pointer (some ⟨b, 0, none⟩)] w (DoesS w B b A s.length c e0 e1 e2 RL (scannedM secM s e0).1 (scannedM secM s e0).2) := by
  have hmf : ∀ (fn : Fn) (first cap : Array Value) (w : World), (Instr.makeFunc fn first cap).run Tryz.prog w = .ok (.func fn first cap) w := fun _ _ _ _ => rfl
  have HI := Aside0.mk h
  have HK := Aside0.mk hC
  have HS := Aside0.mk hs
  have HSEC := Aside0.mk hSec
  have HRL := Aside0.mk hRL
  clear h hC hs hSec hRL
  go_enter_defers Tryz.func23, Tryz.ntmps23
  go_wp2_with fail
  obtain ⟨w0, hw0⟩ : ∃ w0, (w.alloc (.cells zeroBody 42)).alloc (.cells #[.int .i64 0, .int .i64 0] 74) = w0 := ⟨_, rfl⟩
  have hB0 : w0.heap[w.heap.size]? = some (.cells zeroBody 42 (0, 0)) := by
    rw [← hw0]
    exact (below_alloc (Below.refl (w.alloc (.cells zeroBody 42)).heap.size _) _).block _ (by simp) |>.trans (heap_alloc_new w _)
  have hE0 : w0.heap[w.heap.size + 1]? = some (.cells #[.int .i64 0, .int .i64 0] 74 (0, 0)) := by
    rw [← hw0]
    simpa using heap_alloc_new (w.alloc (.cells zeroBody 42)) (.cells #[.int .i64 0, .int .i64 0] 74)
  have hb0 : Below w.heap.size w w0 := by
    rw [← hw0]
    exact below_alloc (below_alloc (Below.refl _ _) _) _
  have A0 := Aside0.mk (show AtR w0 w0 B b A s.length c e0 e1 e2 0 (.slice none 0 0) [] from ⟨HI.out.below hb0, RowD.zero _ _, Fore.refl _ _, Below.refl _ _⟩)
  have HB0 := Aside0.mk hB0
  have HE0 := Aside0.mk hE0
  have HW0 := Aside0.mk hb0
  have hlt := HI.out.lt
  show Code.wp _ _ _ _ ((w.alloc (.cells zeroBody 42)).alloc (.cells #[.int .i64 0, .int .i64 0] 74))
  rw [hw0]
  clear hB0 hE0 hb0 hw0
  go_loopw [6, 7] (fun u6 u7 wr => ∃ (f a : Nat) (dv : Value) (D : List Int), s.length - a < f ∧ a ≤ s.length ∧ D.length ≤ a ∧ Aside0 (chunksM f s e0 a D = chunksM (s.length + 1) s e0 0 []) ∧ Aside0 (AtR w0 wr B b A s.length c e0 e1 e2 a dv D)) (fun _ _ wr => s.length - atOf b wr)
  case atStart => exact ⟨s.length + 1, 0, _, [], by omega, Nat.zero_le _, Nat.le_refl _, ⟨rfl⟩, A0⟩
  case round =>
    obtain ⟨f, a, dv, D, hf, ha, hD, he, hA⟩ := hrel
    obtain ⟨f, rfl⟩ : ∃ m, f = m + 1 := ⟨f - 1, by omega⟩
    have hc := chunk_does B b A c e0 e1 e2 a dv s D wr hA.out.i hA.out.r hBb (Nat.le_trans hBw (Nat.le_trans HW0.out.size hA.out.b.size)) (fun W hW => HK.out W ((HW0.out.mono hBw).trans (hA.out.b.trans hW))) HS.out hl (by omega) hsc ha
    have HE := Aside0.mk he.out
    rw [chunksM] at HE
    have hgt := fun (x : Bool) (a1 : Nat) => chunkM_gt (a1 := a1) (x := x) HS.out (e0 := e0) ha
    have hdt := fun (x : Bool) (a1 : Nat) => chunkM_data (s := s) (e0 := e0) (a := a) (a1 := a1) (x := x)
    have hFB := Aside0.mk (hA.out.f w.heap.size _ _ (by decide) (by omega) HB0.out)
    have hFE := Aside0.mk (hA.out.f (w.heap.size + 1) _ _ (by decide) (by omega) HE0.out)
    obtain ⟨q, hq⟩ : ∃ q, chunkM s e0 a = q := ⟨_, rfl⟩
    rw [hq] at hc HE
    simp only [hq] at hgt hdt
    clear hq he
    obtain ⟨m, d⟩ := q
    dsimp only at hc hgt hdt
    rcases m with ⟨a1, er⟩ | ⟨x, a1⟩
    · go_wp2_with fail
      refine hc.mono ?_
      rintro e w2 ⟨dv2, hr, hb, rfl, hi⟩
      have A2 := Aside0.mk (show AtR w0 w2 B b A s.length c e0 e1 e2 a1 dv2 (D ++ d) from ⟨hi, hr, hA.out.f.trans hb.2, hA.out.b.trans hb.1⟩)
      have hFB2 := hb.2 w.heap.size _ _ (by decide) (by omega) hFB.out
      have hFE2 := hb.2 (w.heap.size + 1) _ _ (by decide) (by omega) hFE.out
      have hcp := catch_panicking w.heap.size (w.heap.size + 1) (by omega) _ _ _ _ _ (a1 : Int) er [] w2 hFB2 hFE2
      show Leaves Tryz.prog Tryz.f23 _ _ [_] (.panicking [_]) w2
      refine leaves_cons (f := 37) (args := #[.pointer (some ⟨w.heap.size, 0, none⟩), .pointer (some ⟨w.heap.size + 1, 0, none⟩)]) (by simp) (by simp [go_sem]) ?_
      refine hcp.mono ?_
      rintro e u' w3 ⟨rfl, rfl, f1, f2, b3, o3⟩
      refine ⟨.tuple #[.agg zeroBody, .agg #[.int .i64 (a1 : Int), .int .i64 er]], ?_, ?_⟩
      · exact results_rows2 (p := 2) (q := 3) rfl _ w3 w.heap.size (w.heap.size + 1) _ _ _ _ rfl rfl f1 f2 Tryz.underlying42 rfl (by kernel_rfl) Tryz.underlying74 rfl (by kernel_rfl)
      · have hM : scannedM secM s e0 = (.error (a1, er), D ++ d) := by
          unfold scannedM
          rw [← HE.out]
        rw [hM]
        exact ⟨dv2, rfl, A2.out.leave HW0.out hBw hlt hFB2 hFE2 (by decide) (by decide) b3 o3⟩
    · have hg := hgt x a1 rfl
      have hd := hdt x a1 rfl
      cases x with
      | true =>
        have HE : Aside0 (chunksM f s e0 a1 (D ++ d) = chunksM (s.length + 1) s e0 0 []) := HE
        go_wp2_with fail
        refine hc.mono ?_
        rintro e w2 ⟨dv2, hr, hb, rfl, hi⟩
        have A2 := Aside0.mk (show AtR w0 w2 B b A s.length c e0 e1 e2 a1 dv2 (D ++ d) from ⟨hi, hr, hA.out.f.trans hb.2, hA.out.b.trans hb.1⟩)
        have hm1 := A2.out.atOf
        have hm0 := hA.out.atOf
        clear hc hr hb hi
        go_wp2
        go_roundw
        case rel => exact ⟨f, a1, dv2, D ++ d, by omega, hg.2, by rw [List.length_append]; omega, HE, A2⟩
        case measure => rw [hm0, hm1]; omega
      | false =>
        go_wp2_with fail
        refine hc.mono ?_
        rintro e w2 ⟨dv2, hr, hb, rfl, hi⟩
        have A2 := Aside0.mk (show AtR w0 w2 B b A s.length c e0 e1 e2 a1 dv2 (D ++ d) from ⟨hi, hr, hA.out.f.trans hb.2, hA.out.b.trans hb.1⟩)
        have hFB2 := Aside0.mk (hb.2 w.heap.size _ _ (by decide) (by omega) hFB.out)
        have hFE2 := Aside0.mk (hb.2 (w.heap.size + 1) _ _ (by decide) (by omega) hFE.out)
        have hsec := HSEC.out w0 w2 a1 dv2 (D ++ d) (HW0.out.mono hBw) A2.out hg.2
        have hM : scannedM secM s e0 = (secM a1, D ++ d) := by
          unfold scannedM
          rw [← HE.out]
        have HM := Aside0.mk hM
        clear hc hr hb hi hM
        cases hs2 : secM a1 with
        | error x =>
          obtain ⟨a3, er⟩ := x
          rw [hs2] at hsec HM
          go_wp2_with fail
          refine hsec.mono ?_
          rintro e w5 ⟨rfl, hA5⟩
          have A5 := Aside0.mk (show AtR w0 w5 B b A s.length c e0 e1 e2 a3 dv2 (D ++ d) from ⟨hA5.i, hA5.r, A2.out.f.trans hA5.f, A2.out.b.trans hA5.b⟩)
          have hFB5 := hA5.f w.heap.size _ _ (by decide) (by omega) hFB2.out
          have hFE5 := hA5.f (w.heap.size + 1) _ _ (by decide) (by omega) hFE2.out
          have hcp := catch_panicking w.heap.size (w.heap.size + 1) (by omega) _ _ _ _ _ (a3 : Int) er [] w5 hFB5 hFE5
          show Leaves Tryz.prog Tryz.f23 _ _ [_] (.panicking [_]) w5
          refine leaves_cons (f := 37) (args := #[.pointer (some ⟨w.heap.size, 0, none⟩), .pointer (some ⟨w.heap.size + 1, 0, none⟩)]) (by simp) (by simp [go_sem]) ?_
          refine hcp.mono ?_
          rintro e u' w3 ⟨rfl, rfl, f1, f2, b3, o3⟩
          refine ⟨.tuple #[.agg zeroBody, .agg #[.int .i64 (a3 : Int), .int .i64 er]], ?_, ?_⟩
          · exact results_rows2 (p := 2) (q := 3) rfl _ w3 w.heap.size (w.heap.size + 1) _ _ _ _ rfl rfl f1 f2 Tryz.underlying42 rfl (by kernel_rfl) Tryz.underlying74 rfl (by kernel_rfl)
          · rw [HM.out]
            exact ⟨dv2, rfl, A5.out.leave HW0.out hBw hlt hFB5 hFE5 (by decide) (by decide) b3 o3⟩
        | ok x =>
          obtain ⟨l, a3⟩ := x
          rw [hs2] at hsec HM
          go_wp2_with fail
          refine hsec.mono ?_
          rintro e w5 ⟨A', n', c', rfl, hl5, hA5⟩
          have A5 := Aside0.mk (show AtR w0 w5 B b A s.length c e0 e1 e2 a3 dv2 (D ++ d) from ⟨hA5.i, hA5.r, A2.out.f.trans hA5.f, A2.out.b.trans hA5.b⟩)
          have hFB5 := hA5.f w.heap.size _ _ (by decide) (by omega) hFB2.out
          have hFE5 := hA5.f (w.heap.size + 1) _ _ (by decide) (by omega) hFE2.out
          obtain ⟨A1, kc, q1, _, _⟩ := hA5.r.reads
          subst q1
          have c4 := hA5.i.c4
          have c5 := hA5.i.c5
          have hne1 : ¬ b = w.heap.size := by omega
          have hne2 : ¬ b = w.heap.size + 1 := by omega
          have k0 : w5.cell? ⟨w.heap.size, 0, none⟩ = some (.slice none 0 0) := (blk_cell hFB5 0).trans rfl
          have k1 : w5.cell? ⟨w.heap.size, 1, none⟩ = some (.slice none 0 0) := (blk_cell hFB5 1).trans rfl
          have k2 : w5.cell? ⟨w.heap.size, 2, none⟩ = some (.int .i64 0) := (blk_cell hFB5 2).trans rfl
          have l0 : w5.cell? ⟨w.heap.size + 1, 0, none⟩ = some (.int .i64 0) := (blk_cell hFE5 0).trans rfl
          have l1 : w5.cell? ⟨w.heap.size + 1, 1, none⟩ = some (.int .i64 0) := (blk_cell hFE5 1).trans rfl
          have f0 : w5.frozen? ⟨w.heap.size, 0, none⟩ = false := blk_frozen hFB5 0
          have f1 : w5.frozen? ⟨w.heap.size, 1, none⟩ = false := blk_frozen hFB5 1
          have f2 : w5.frozen? ⟨w.heap.size, 2, none⟩ = false := blk_frozen hFB5 2
          have f3 : w5.frozen? ⟨w.heap.size + 1, 0, none⟩ = false := blk_frozen hFE5 0
          have f4 : w5.frozen? ⟨w.heap.size + 1, 1, none⟩ = false := blk_frozen hFE5 1
          have HFB5 := Aside0.mk hFB5
          have HFE5 := Aside0.mk hFE5
          have HL5 := Aside0.mk hl5
          clear hFB5 hFE5 hl5 hA5 hsec hgt hdt
          go_wp2_with fail
          obtain ⟨N, hN⟩ : ∃ N, (D ++ d).length = N := ⟨_, rfl⟩
          rw [hN] at c5
          have HN := Aside0.mk hN
          clear hN
          have HLT := Aside0.mk hlt
          have HBW := Aside0.mk hBw
          clear hg hd ha hf hD hs2 hmf HE HSEC hlt hBw hBb hl hsc
          generalize hbB : w.heap.size = bB at *
          generalize hbE : bB + 1 = bE at *
          have HbB := Aside0.mk hbB
          have HbE := Aside0.mk hbE
          have c4d : w5.drew.cell? ⟨b, 4, none⟩ = some (.int .i64 (a3 : Int)) := c4
          have c5d : w5.drew.cell? ⟨b, 5, none⟩ = some (.slice A1 N kc) := c5
          have hq1 : ¬ bB = bE := by omega
          have hq2 : ¬ bE = bB := by omega
          clear hbB hbE
          go_region_held3 (fun W => W.cell? ⟨b, 4, none⟩ = some (.int .i64 (a3 : Int)) ∧ W.cell? ⟨b, 5, none⟩ = some (.slice A1 N kc)) (first | with_reducible exact ⟨c4d, c5d⟩ | with_reducible exact farB hne1 w5 _ _ _ _ _ c4 c5 | with_reducible exact farE hne1 hne2 w5 _ _ _ _ _ _ _ c4 c5) (fail)
          generalize hW6 : (((((w5.setCell ⟨bB, 0, none⟩ (.slice A1 N kc)).setCell ⟨bB, 1, none⟩ (.slice A' n' c')).setCell ⟨bB, 2, none⟩ (.int .i64 (a3 : Int))).setCell ⟨bE, 0, none⟩ (.int .i64 (a3 : Int))).setCell ⟨bE, 1, none⟩ (.int .i64 0)).drew = w6
          have HW6 := Aside0.mk hW6
          clear hW6
          go_wp2_with fail
          show Leaves Tryz.prog Tryz.f23 _ _ [_] .returning w6
          refine leaves_cons (f := 37) (args := #[.pointer (some ⟨bB, 0, none⟩), .pointer (some ⟨bE, 0, none⟩)]) (by simp) (by simp [go_sem]) ?_
          refine (catch_idle ⟨bB, 0, none⟩ ⟨bE, 0, none⟩ w6).mono ?_
          rintro e u' w7 ⟨rfl, rfl, rfl⟩
          obtain ⟨x1, x2, x3, x4⟩ := setBE bB bE hq1 (.slice A1 N kc) (.slice A' n' c') (.int .i64 (a3 : Int)) (.int .i64 (a3 : Int)) (.int .i64 0) w5 _ _ _ _ _ HFB5.out HFE5.out
          rw [HW6.out] at x1 x2 x3 x4
          refine ⟨.tuple #[.agg #[.slice A1 N kc, .slice A' n' c', .int .i64 (a3 : Int)], .agg #[.int .i64 (a3 : Int), .int .i64 0]], ?_, ?_⟩
          · exact results_rows2 (p := 2) (q := 3) rfl _ w7 bB bE _ _ _ _ rfl rfl x1 x2 Tryz.underlying42 rfl (by kernel_rfl) Tryz.underlying74 rfl (by kernel_rfl)
          · rw [HM.out]
            have e1 := HbB.out
            subst e1
            have e2 := HbE.out
            subst e2
            rw [← HN.out] at *
            refine ⟨.slice A1 (D ++ d).length kc, .slice A' n' c', HRL.out w5 w7 _ _ _ _ _ _ HL5.out HFB5.out HFE5.out x4, rfl, ?_⟩
            exact A5.out.leave HW0.out HBW.out HLT.out HFB5.out HFE5.out (by decide) (by decide) x3 x4
end Go.Proofs.YtmmbpbgcobmifaaGreatDoorH
end
