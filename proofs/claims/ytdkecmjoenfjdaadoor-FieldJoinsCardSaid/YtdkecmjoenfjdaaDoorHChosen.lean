import Derived.Test.YtdkecmjoenfjdaaDoorHGivenOctet
import Derived.Test.YtdkecmjoenfjdaaDoorPrx0
namespace Go.Proofs.YtdkecmjoenfjdaaDoorH
open Go.RowKit Go.Proofs.YtdkecmjoenfjdaaDoorW.PrintWords Go.Proofs.YtdkecmjoenfjdaaDoorW.PrintLast Go.Proofs.YtdkecmjoenfjdaaDoorW.PrintMore Go.Proofs.YtdkecmjoenfjdaaDoor.Pr

theorem take_one {α : Type} (l : List α) (d : α) (k : Nat) (h : k < l.length) : l.take (k + 1) = l.take k ++ [l.getD k d] := by
  rw [List.take_succ_eq_append_getElem h]
  simp [List.getD_eq_getElem?_getD, h]
theorem mem_getD {α : Type} (l : List α) (d : α) (k : Nat) (h : k < l.length) : l.getD k d ∈ l := by
  rw [List.getD_eq_getElem?_getD, List.getElem?_eq_getElem h]
  exact List.getElem_mem h
theorem filter_take_length {α : Type} (p : α → Bool) (l : List α) (k : Nat) : ((l.take k).filter p).length ≤ l.length :=
  Nat.le_trans (List.length_filter_le _ _) (by rw [List.length_take]; omega)

set_option maxHeartbeats 1600000 in
set_option maxRecDepth 100000 in
theorem chosenS_calls (F G : Nat) (pb : Addr) (p : S24 → Bool) (m : S24 → ByteArray) (A0 : Option Addr) (c0 : Nat) (l : List S24) (w : World)
    (hr : Kd.C k24 w A0 l.length l) (_hc : l.length ≤ c0) (hn : l.length < 8796093022208)
    (eF : ∀ args w, (callFunc F args).run Tryd.prog w = .ok (.enter F args) w) (eG : ∀ args w, (callFunc G args).run Tryd.prog w = .ok (.enter G args) w)
    (hF : ∀ x ∈ l, ∀ W, Below w.heap.size w W → Calls Tryd.prog F #[.agg #[.string x.f0, .string x.f1], .pointer (some pb)] W fun e W' => e = .returned (.bool (p x)) ∧ Below W.heap.size W W')
    (hG : ∀ x ∈ l, ∀ W, Calls Tryd.prog G #[.agg #[.string x.f0, .string x.f1]] W fun e W' => e = .returned (.string (m x)) ∧ Below W.heap.size W W') :
    Calls Tryd.prog 46 #[.slice A0 l.length c0, .func (.func F) #[] #[.pointer (some pb)], .func (.func G) #[] #[]] w fun e w' =>
      ∃ v, e = .returned v ∧ Kd.R Kd.string 9 w' w.heap.size (fun _ => True) v ((l.filter p).map m) ∧ Below w.heap.size w w' := by
  have HR := Aside0.mk hr
  have HF := Aside0.mk hF
  have HG := Aside0.mk hG
  have HN := Aside0.mk hn
  clear hr hF hG
  go_enter Tryd.func46, Tryd.ntmps46
  go_wp2
  go_loopw [7, 12] (fun v7 v12 wr => ∃ k : Nat, k ≤ l.length ∧ v12 = .int .i64 k ∧ Aside0 (Kd.R Kd.string 9 wr w.heap.size (fun _ => True) v7 (((l.take k).filter p).map m)) ∧ Aside0 (Below w.heap.size w wr)) (fun _ v12 _ => l.length - (intOf v12).toNat)
  case atStart => exact ⟨0, Nat.zero_le _, rfl, ⟨Kd.R_nil _ _ _ _ _⟩, ⟨Below.refl _ _⟩⟩
  case round =>
    obtain ⟨k, hk, rfl, ho, hb⟩ := hrel
    by_cases hlt : k < l.length
    · obtain ⟨ad, e, hx0, hx1⟩ := at_T24 HR.out (k : Int) (by omega) (by omega)
      cases e
      have hx0 := (hb.out.cell (World.block_lt_of_cell? w _ hx0)).trans hx0
      have hx1 := (hb.out.cell (World.block_lt_of_cell? w _ hx1)).trans hx1
      have HX := Aside0.mk (mem_getD l z24 k hlt)
      have HT := Aside0.mk (take_one l z24 k hlt)
      have HLEN := Aside0.mk (filter_take_length p l k)
      unfold rd_T24 at hx0 hx1
      rw [Int.toNat_natCast] at hx0 hx1
      generalize l.getD k z24 = x at *
      go_wp2_with fail
      refine (HF.out x HX.out _ (hb.out.alloc hb.out.size _)).mono ?_
      rintro e w1 ⟨rfl, b1⟩
      have B1 := Aside0.mk ((hb.out.alloc hb.out.size _).trans (b1.mono (Nat.le_trans hb.out.size (by simp))))
      have O1 := Aside0.mk (Kd.R_below (Kd.R_alloc ho.out _) b1)
      have y0 := pw_cell_below b1 (show (wr.alloc (.cells #[.string x.f0, .string x.f1] 24)).cell? ⟨wr.heap.size, 0, none⟩ = some (.string x.f0) by simp)
      have y1 := pw_cell_below b1 (show (wr.alloc (.cells #[.string x.f0, .string x.f1] 24)).cell? ⟨wr.heap.size, 1, none⟩ = some (.string x.f1) by simp)
      clear b1 hx0 hx1
      cases hp : p x with
      | true =>
        have HP := Aside0.mk hp
        clear hp
        go_wp2_with fail
        refine (HG.out x HX.out _).mono ?_
        rintro e w2 ⟨rfl, b2⟩
        have B2 := Aside0.mk (B1.out.trans (b2.mono B1.out.size))
        have O2 := Aside0.mk (Kd.R_below O1.out b2)
        clear b2 y0 y1
        go_wp2_with (first | ((with_reducible refine gate_builtin (b := .append) (xs := #[.tmp 19, .tmp 23]) rfl ?_); at_builtin; refine Kd.R_append Kd.string (w0 := w) w.heap.size rfl (.tmp 19) (.tmp 23) 37 9 (.string ⟨#[]⟩) 16 rfl Tryd.underlying37 info9 rfl (by decide) (by omega) u7 (((l.take k).filter p).map m) (m x) [.string (m x)] (fun _ => True) (fun _ => False) rfl rfl ?aP (fun _ hk => hk.elim) ?aF ?aO ?aB ?aS ?aL ?_; (case aP => exact rfl); (case aB => exact B2.out); (case aF => exact (fun _ _ => trivial)); (case aO => exact O2.out); (case aS => exact B2.out.size); (case aL => have := HLEN.out; have := HN.out; rw [List.length_map]; omega); intro v3 w3 ho3 hb3 hg3 hat3; have O3 := Aside0.mk ho3; have B3 := Aside0.mk hb3; clear ho3 hb3 hg3 hat3))
        go_roundw
        case rel => exact ⟨k + 1, by omega, by go_num, ⟨by rw [HT.out, List.filter_append, List.map_append, List.filter_cons_of_pos HP.out]; exact O3.out⟩, B3⟩
        case measure => simp [intOf]; omega
      | false =>
        have HP := Aside0.mk hp
        clear hp
        go_wp2
        go_roundw
        case rel => exact ⟨k + 1, by omega, by go_num, ⟨by rw [HT.out, List.filter_append, List.map_append, List.filter_cons_of_neg (by simp [HP.out])]; simpa using O1.out⟩, B1⟩
        case measure => simp [intOf]; omega
    · have hke : k = l.length := by omega
      subst hke
      rw [List.take_length] at ho
      go_wp2
      go_ret
      exact ⟨_, rfl, ho.out, hb.out⟩

set_option maxHeartbeats 1600000 in
set_option maxRecDepth 100000 in
theorem chosenF_calls (F G : Nat) (pb : Addr) (p : S24 → Bool) (A0 : Option Addr) (c0 : Nat) (l : List S24) (w : World)
    (hr : Kd.C k24 w A0 l.length l) (_hc : l.length ≤ c0) (hn : l.length < 4398046511104)
    (eF : ∀ args w, (callFunc F args).run Tryd.prog w = .ok (.enter F args) w) (eG : ∀ args w, (callFunc G args).run Tryd.prog w = .ok (.enter G args) w)
    (hF : ∀ x ∈ l, ∀ W, Below w.heap.size w W → Calls Tryd.prog F #[.agg #[.string x.f0, .string x.f1], .pointer (some pb)] W fun e W' => e = .returned (.bool (p x)) ∧ Below W.heap.size W W')
    (hG : ∀ x ∈ l, ∀ W, Calls Tryd.prog G #[.agg #[.string x.f0, .string x.f1]] W fun e W' => e = .returned (.agg #[.string x.f0, .string x.f1]) ∧ Below W.heap.size W W') :
    Calls Tryd.prog 54 #[.slice A0 l.length c0, .func (.func F) #[] #[.pointer (some pb)], .func (.func G) #[] #[]] w fun e w' =>
      ∃ v, e = .returned v ∧ Kd.R k24 24 w' w.heap.size (fun _ => True) v (l.filter p) ∧ Below w.heap.size w w' := by
  have HR := Aside0.mk hr
  have HF := Aside0.mk hF
  have HG := Aside0.mk hG
  have HN := Aside0.mk hn
  clear hr hF hG
  go_enter Tryd.func54, Tryd.ntmps54
  go_wp2
  go_loopw [7, 12] (fun v7 v12 wr => ∃ k : Nat, k ≤ l.length ∧ v12 = .int .i64 k ∧ Aside0 (Kd.R k24 24 wr w.heap.size (fun _ => True) v7 ((l.take k).filter p)) ∧ Aside0 (Below w.heap.size w wr)) (fun _ v12 _ => l.length - (intOf v12).toNat)
  case atStart => exact ⟨0, Nat.zero_le _, rfl, ⟨Kd.R_nil _ _ _ _ _⟩, ⟨Below.refl _ _⟩⟩
  case round =>
    obtain ⟨k, hk, rfl, ho, hb⟩ := hrel
    by_cases hlt : k < l.length
    · obtain ⟨ad, e, hx0, hx1⟩ := at_T24 HR.out (k : Int) (by omega) (by omega)
      cases e
      have hx0 := (hb.out.cell (World.block_lt_of_cell? w _ hx0)).trans hx0
      have hx1 := (hb.out.cell (World.block_lt_of_cell? w _ hx1)).trans hx1
      have HX := Aside0.mk (mem_getD l z24 k hlt)
      have HT := Aside0.mk (take_one l z24 k hlt)
      have HLEN := Aside0.mk (filter_take_length p l k)
      unfold rd_T24 at hx0 hx1
      rw [Int.toNat_natCast] at hx0 hx1
      generalize l.getD k z24 = x at *
      go_wp2_with fail
      refine (HF.out x HX.out _ (hb.out.alloc hb.out.size _)).mono ?_
      rintro e w1 ⟨rfl, b1⟩
      have B1 := Aside0.mk ((hb.out.alloc hb.out.size _).trans (b1.mono (Nat.le_trans hb.out.size (by simp))))
      have O1 := Aside0.mk (Kd.R_below (Kd.R_alloc ho.out _) b1)
      have y0 := pw_cell_below b1 (show (wr.alloc (.cells #[.string x.f0, .string x.f1] 24)).cell? ⟨wr.heap.size, 0, none⟩ = some (.string x.f0) by simp)
      have y1 := pw_cell_below b1 (show (wr.alloc (.cells #[.string x.f0, .string x.f1] 24)).cell? ⟨wr.heap.size, 1, none⟩ = some (.string x.f1) by simp)
      clear b1 hx0 hx1
      cases hp : p x with
      | true =>
        have HP := Aside0.mk hp
        clear hp
        go_wp2_with fail
        refine (HG.out x HX.out _).mono ?_
        rintro e w2 ⟨rfl, b2⟩
        have B2 := Aside0.mk (B1.out.trans (b2.mono B1.out.size))
        have O2 := Aside0.mk (Kd.R_below O1.out b2)
        clear b2 y0 y1
        go_wp2_with (first | ((with_reducible refine gate_builtin (b := .append) (xs := #[.tmp 19, .tmp 23]) rfl ?_); at_builtin; refine Kd.R_append k24 (w0 := w) w.heap.size rfl (.tmp 19) (.tmp 23) 36 24 (.agg #[(.string ⟨#[]⟩), (.string ⟨#[]⟩)]) 32 rfl Tryd.underlying36 info24 rfl (by decide) (by omega) u7 ((l.take k).filter p) x [.string x.f0, .string x.f1] (fun _ => True) (fun _ => False) rfl rfl ?aP (fun _ hk => hk.elim) ?aF ?aO ?aB ?aS ?aL ?_; (case aP => exact k24_mkM _ _ _ x); (case aB => exact B2.out); (case aF => exact (fun _ _ => trivial)); (case aO => exact O2.out); (case aS => exact B2.out.size); (case aL => have := HLEN.out; have := HN.out; omega); intro v3 w3 ho3 hb3 hg3 hat3; have O3 := Aside0.mk ho3; have B3 := Aside0.mk hb3; clear ho3 hb3 hg3 hat3))
        go_roundw
        case rel => exact ⟨k + 1, by omega, by go_num, ⟨by rw [HT.out, List.filter_append, List.filter_cons_of_pos HP.out]; exact O3.out⟩, B3⟩
        case measure => simp [intOf]; omega
      | false =>
        have HP := Aside0.mk hp
        clear hp
        go_wp2
        go_roundw
        case rel => exact ⟨k + 1, by omega, by go_num, ⟨by rw [HT.out, List.filter_append, List.filter_cons_of_neg (by simp [HP.out])]; simpa using O1.out⟩, B1⟩
        case measure => simp [intOf]; omega
    · have hke : k = l.length := by omega
      subst hke
      rw [List.take_length] at ho
      go_wp2
      go_ret
      exact ⟨_, rfl, ho.out, hb.out⟩
end Go.Proofs.YtdkecmjoenfjdaaDoorH
