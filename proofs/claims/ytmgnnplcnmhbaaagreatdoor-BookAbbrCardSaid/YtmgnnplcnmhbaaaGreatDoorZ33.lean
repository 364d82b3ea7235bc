/- Part 33 of 36 of the proof of bookAbbr_holds. What it holds was printed or written for this claim, text by text, and merged. -/
import Derived.Test.YtmgnnplcnmhbaaaGreatDoorZ32
section
namespace Go.Proofs.YtmgnnplcnmhbaaaGreatDoor.PT
open Go.RowKit Go.Proofs.YtmgnnplcnmhbaaaGreatDoorW.PrintWords Go.Proofs.YtmgnnplcnmhbaaaGreatDoorW.PrintLast Go.Proofs.YtmgnnplcnmhbaaaGreatDoorW.PrintMore
set_option linter.unusedVariables false
set_option linter.unusedSimpArgs false
structure SZ where
  f0 : ByteArray
  a : Option Addr
  n : Nat
  c : Nat
def kSZ : Kd SZ := Kd.iso (Kd.pair Kd.string (Kd.scalar (fun x : Option Addr × Nat × Nat => Value.slice x.1 x.2.1 x.2.2) (fun _ => rfl))) (fun x : SZ => (x.f0, (x.a, x.n, x.c)))
theorem kSZ_openM {w : World} {base : Nat} {ok : Nat → Prop} {x : SZ} {cs : List Value} (h : kSZ.M w base ok x cs) : cs = [.string x.f0, .slice x.a x.n x.c] := by
  obtain ⟨_, _, rfl, rfl, rfl⟩ := h
  exact rfl
theorem kSZ_mkM (w : World) (base : Nat) (ok : Nat → Prop) (x : SZ) : kSZ.M w base ok x [.string x.f0, .slice x.a x.n x.c] := ⟨[.string x.f0], [.slice x.a x.n x.c], rfl, rfl, rfl⟩
theorem infoZ : (Tryz.prog.info? 43).map (fun i => (i.zero, i.size, i.bytes)) = some (some (.agg #[(.string ⟨#[]⟩), (.slice none 0 0)]), 2, 40) := by kernel_rfl
theorem infoE : (Tryz.prog.info? 39).map (fun i => (i.zero, i.size, i.bytes)) = some (some (.agg #[(.int .i64 0), (.string ⟨#[]⟩), (.int .i64 0), (.string ⟨#[]⟩), (.int .i64 0)]), 5, 56) := by kernel_rfl
theorem split_row {w w' : World} {l : List ByteArray} {b : Nat} (h : w' = w.alloc (.cells (l.map Value.string).toArray 9)) (hb : b = w.heap.size) : w'.heap[b]? = some (.cells (l.map Value.string).toArray 9 (0, 0)) := by
  subst h hb
  exact heap_alloc_new _ _
set_option maxHeartbeats 4000000 in
set_option maxRecDepth 100000 in
theorem line_zone.calls (gr : Nat) (vR vL : Value) (Az : Option Addr) (cz : Nat) (zs : List SZ) (base : Nat) (s nm : ByteArray) (hc : Lib.countB s ⟨#[32]⟩ = 1) (hl : Lib.splitB ⟨#[32]⟩ 0 1 s = [⟨#[122, 111, 110, 101]⟩, nm]) (hs : s.size < 4294967281) (hlen : zs.length < 3000000000000) (w : World) (hL : LaidT w) (hg : w.heap[gr]? = some (.cells #[vR, .slice Az zs.length cz, vL, .int .i64 0] 53 (0, 0))) (hr : Kd.R kSZ 43 w base (fun _ => True) (.slice Az zs.length cz) zs) (hbase : base ≤ w.heap.size) :
    Calls Tryz.prog 19 #[.pointer (some ⟨gr, 0, none⟩), .string s] w fun e w' => e = .returned (.bool true) ∧ ∃ A1 c1, w'.heap[gr]? = some (.cells #[vR, .slice A1 (zs.length + 1) c1, vL, .int .i64 2] 53 (0, 0)) ∧ Kd.R kSZ 43 w' base (fun _ => True) (.slice A1 (zs.length + 1) c1) (zs ++ [(⟨nm, none, 0, 0⟩ : SZ)]) ∧ But w w' (fun k => k = gr ∨ some k = (Value.slice Az zs.length cz).ownBlock) := by
  have hu := Tryz.underlying53
  have hu2 := Tryz.underlying27
  have hu3 := Tryz.underlying43
  obtain ⟨m, hm⟩ := hL.most
  have HSP := Aside0.mk (split_of s ⟨#[32]⟩ 1 _ hc hl ⟨by decide, hs⟩ m w hm)
  have HG := Aside0.mk hg
  have HR := Aside0.mk hr
  clear hL hm hc hl hg hr
  go_enter Tryz.func19, Tryz.ntmps19
  go_wp2_with (go_at_call 18; (with_reducible refine HSP.out.mono ?_); rintro e w2 ⟨rfl, hw2⟩; have HW2 := Aside0.mk hw2; have hbB := below_alloc (Below.refl w.heap.size w) (.cells ([(⟨#[122, 111, 110, 101]⟩ : ByteArray), nm].map Value.string).toArray 9); rw [← hw2] at hbB; have HB := Aside0.mk hbB; obtain ⟨bl, hbL⟩ : ∃ b, b = w.heap.size := ⟨_, rfl⟩; have HX2 : Aside0 (w2.heap[bl]? = some (.cells #[.string ⟨#[122, 111, 110, 101]⟩, .string nm] 9 (0, 0))) := ⟨split_row hw2 hbL⟩; rw [← hbL]; have HBL := Aside0.mk hbL; clear hw2 hbB hbL; have y0 : w2.cell? ⟨bl, 0, none⟩ = some (.string ⟨#[122, 111, 110, 101]⟩) := (blk_cell HX2.out 0).trans rfl; have y1 : w2.cell? ⟨bl, 1, none⟩ = some (.string nm) := (blk_cell HX2.out 1).trans rfl; have hbl := blk_lt HX2.out; have HG2 := Aside0.mk (blk_below HG.out HB.out); have HR2 := Aside0.mk (Kd.R_below HR.out HB.out); have hgr := blk_lt HG2.out; have q1 : w2.cell? ⟨gr, 1, none⟩ = some (.slice Az zs.length cz) := (blk_cell HG2.out 1).trans rfl; have q3 : w2.cell? ⟨gr, 3, none⟩ = some (.int .i64 0) := (blk_cell HG2.out 3).trans rfl)
  have hsz := HB.out.size
  refine start_ (n := 20) (S := fun w' => w'.cell? ⟨gr, 1, none⟩ = some (.slice Az zs.length cz) ∧ w'.cell? ⟨bl, 1, none⟩ = some (.string nm)) (ds := [16, 19]) #[false, false, false, false, false, false, false, false, false, false, false, false, false, false, false, false, false, false, false, false] (by kernel_rfl) rfl rfl ⟨q1, y1⟩ (fun hHeld => ?_)
  refine pure_ (i := 0) (N := (some 58)) (v := ?_) (a' := ?_) #[true, false, false, false, false, false, false, false, false, false, false, false, false, false, false, false, false, false, false, false] rfl rfl (by kernel_rfl) (fun _ _ _ h => h) (Or.inl ⟨by rfl, ?_⟩) ?_ ?_
  rotate_left
  · intro w'
    go_simp
    with_reducible rfl
  rotate_left
  · simp only [Act.put, List.setIfInBounds_toArray, List.set_cons_zero, List.set_cons_succ, i64_w, i32_w]
    rfl
  refine pure_ (i := 1) (N := (some 59)) (v := ?_) (a' := ?_) #[true, true, false, false, false, false, false, false, false, false, false, false, false, false, false, false, false, false, false, false] rfl rfl (by kernel_rfl) (fun _ _ _ h => h) (Or.inl ⟨by rfl, ?_⟩) ?_ ?_
  rotate_left
  · intro w'
    go_simp
    with_reducible rfl
  rotate_left
  · simp only [Act.put, List.setIfInBounds_toArray, List.set_cons_zero, List.set_cons_succ, i64_w, i32_w]
    rfl
  refine pure_ (i := 2) (N := (some 60)) (v := ?_) (a' := ?_) #[true, true, true, false, false, false, false, false, false, false, false, false, false, false, false, false, false, false, false, false] rfl rfl (by kernel_rfl) (fun _ _ _ h => h) (Or.inl ⟨by rfl, ?_⟩) ?_ ?_
  rotate_left
  · intro w'
    go_simp
    with_reducible rfl
  rotate_left
  · simp only [Act.put, List.setIfInBounds_toArray, List.set_cons_zero, List.set_cons_succ, i64_w, i32_w]
    rfl
  refine pure_ (i := 3) (N := (some 61)) (v := ?_) (a' := ?_) #[true, true, true, true, false, false, false, false, false, false, false, false, false, false, false, false, false, false, false, false] rfl rfl (by kernel_rfl) (fun _ _ _ h => h) (Or.inl ⟨by rfl, ?_⟩) ?_ ?_
  rotate_left
  · intro w'
    go_simp
    with_reducible rfl
  rotate_left
  · simp only [Act.put, List.setIfInBounds_toArray, List.set_cons_zero, List.set_cons_succ, i64_w, i32_w]
    rfl
  refine pure_ (i := 4) (N := (some 62)) (v := ?_) (a' := ?_) #[true, true, true, true, true, false, false, false, false, false, false, false, false, false, false, false, false, false, false, false] rfl rfl (by kernel_rfl) (fun _ _ _ h => h) (Or.inl ⟨by rfl, ?_⟩) ?_ ?_
  rotate_left
  · intro w'
    go_simp
    with_reducible rfl
  rotate_left
  · simp only [Act.put, List.setIfInBounds_toArray, List.set_cons_zero, List.set_cons_succ, i64_w, i32_w]
    rfl
  refine pure_ (i := 5) (N := (some 63)) (v := ?_) (a' := ?_) #[true, true, true, true, true, true, false, false, false, false, false, false, false, false, false, false, false, false, false, false] rfl rfl (by kernel_rfl) (fun _ _ _ h => h) (Or.inl ⟨by rfl, ?_⟩) ?_ ?_
  rotate_left
  · intro w'
    go_simp
    with_reducible rfl
  rotate_left
  · simp only [Act.put, List.setIfInBounds_toArray, List.set_cons_zero, List.set_cons_succ, i64_w, i32_w]
    rfl
  refine take_ (i := 6) (N := (some 64)) (v := ?_) (a' := ?_) #[true, true, true, true, true, true, true, false, false, false, false, false, false, false, false, false, false, false, false, false] rfl rfl (by kernel_rfl) (fun _ _ _ h => h) (Or.inl ⟨by rfl, ?_⟩) hHeld ?_ ?_
  rotate_left
  · rintro w' ⟨s0, s1⟩
    go_simp
    with_reducible rfl
  rotate_left
  · simp only [Act.put, List.setIfInBounds_toArray, List.set_cons_zero, List.set_cons_succ, i64_w, i32_w]
    rfl
  refine pure_ (i := 7) (N := (some 65)) (v := ?_) (a' := ?_) #[true, true, true, true, true, true, true, true, false, false, false, false, false, false, false, false, false, false, false, false] rfl rfl (by kernel_rfl) (fun _ _ _ h => h) (Or.inl ⟨by rfl, ?_⟩) ?_ ?_
  rotate_left
  · intro w'
    go_simp
    with_reducible rfl
  rotate_left
  · simp only [Act.put, List.setIfInBounds_toArray, List.set_cons_zero, List.set_cons_succ, i64_w, i32_w]
    rfl
  refine pure_ (i := 8) (N := (some 66)) (v := ?_) (a' := ?_) #[true, true, true, true, true, true, true, true, true, false, false, false, false, false, false, false, false, false, false, false] rfl rfl (by kernel_rfl) (fun _ _ _ h => h) (Or.inl ⟨by rfl, ?_⟩) ?_ ?_
  rotate_left
  · intro w'
    go_simp
    with_reducible rfl
  rotate_left
  · simp only [Act.put, List.setIfInBounds_toArray, List.set_cons_zero, List.set_cons_succ, i64_w, i32_w]
    rfl
  refine take_ (i := 9) (N := (some 67)) (v := ?_) (a' := ?_) #[true, true, true, true, true, true, true, true, true, true, false, false, false, false, false, false, false, false, false, false] rfl rfl (by kernel_rfl) (fun _ _ _ h => h) (Or.inl ⟨by rfl, ?_⟩) hHeld ?_ ?_
  rotate_left
  · rintro w' ⟨s0, s1⟩
    go_simp
    with_reducible rfl
  rotate_left
  · simp only [Act.put, List.setIfInBounds_toArray, List.set_cons_zero, List.set_cons_succ, i64_w, i32_w]
    rfl
  refine pure_ (i := 10) (N := (some 68)) (v := ?_) (a' := ?_) #[true, true, true, true, true, true, true, true, true, true, true, false, false, false, false, false, false, false, false, false] rfl rfl (by kernel_rfl) (fun _ _ _ h => h) (Or.inl ⟨by rfl, ?_⟩) ?_ ?_
  rotate_left
  · intro w'
    go_simp
    with_reducible rfl
  rotate_left
  · simp only [Act.put, List.setIfInBounds_toArray, List.set_cons_zero, List.set_cons_succ, i64_w, i32_w]
    rfl
  refine one_ (i := 11) (N := (some 69)) #[true, true, true, true, true, true, true, true, true, true, true, true, false, false, false, false, false, false, false, false] rfl rfl (by kernel_rfl) (by decide) (fun K hK => ?_)
  have hx0 : w2.drew.heap.size = w2.heap.size := rfl
  refine value_ (w1 := w2.drew.alloc (Obj.cells #[.string nm, .slice none 0 0] 43)) (v := .slice (some ⟨w2.drew.heap.size, 0, none⟩) 1 1) (by rfl) rfl ?run ?h
  case run =>
    go_simp
  have hb := below_alloc (Below.refl w2.drew.heap.size w2.drew) (Obj.cells #[.string nm, .slice none 0 0] 43)
  refine hK.out _ _ ⟨(hb.cell (p := ⟨gr, 1, none⟩) hgr).trans hHeld.1, (hb.cell (p := ⟨bl, 1, none⟩) hbl).trans hHeld.2⟩ (fun hHeld => ?_)
  clear hK K
  refine one_ (i := 12) (N := (some 70)) #[true, true, true, true, true, true, true, true, true, true, true, true, true, false, false, false, false, false, false, false] rfl rfl (by kernel_rfl) (by decide) (fun K hK => ?_)
  refine Kd.R_append_step kSZ (w0 := w2.drew) base (by rfl) (.tmp 64) (.tmp 69) 24 43 (.agg #[(.string ⟨#[]⟩), (.slice none 0 0)]) 40 rfl Tryz.underlying24 infoZ rfl (by decide) (by omega) (.slice Az zs.length cz) zs (⟨nm, none, 0, 0⟩ : SZ) [.string nm, .slice none 0 0] (fun _ => True) (fun _ => False) rfl rfl ?aP (fun _ hk => hk.elim) ?aF ?aO ?aB ?aS ?aL ?_
  case aP => exact kSZ_mkM _ _ _ (⟨nm, none, 0, 0⟩ : SZ)
  case aF => exact fun _ _ => trivial
  case aO => exact HR2.out
  case aB => exact Below.refl _ _
  case aS => omega
  case aL => omega
  intro v1 w3 ho hb3 hg3 hat
  obtain ⟨A1, c1, hv1⟩ := Kd.R_slice ho
  subst hv1
  have hgne : some gr ≠ (Value.slice Az zs.length cz).ownBlock := Kd.R_ne HR2.out HG2.out (by decide)
  have hbg := (hg3.block gr hgr hgne).trans HG2.out
  have hxne : some bl ≠ (Value.slice Az zs.length cz).ownBlock := Kd.R_ne HR2.out HX2.out (by decide)
  have hbx := (hg3.block bl hbl hxne).trans HX2.out
  refine (show K (Act.put _ (some 70) _) _ from hK.out _ _ ⟨(blk_cell hbg 1).trans rfl, (blk_cell hbx 1).trans rfl⟩ (fun hHeld => ?_))
  refine norm_ (a' := ?_) ?na ?nh
  rotate_left
  · simp only [Act.put, List.setIfInBounds_toArray, List.set_cons_zero, List.set_cons_succ, i64_w, i32_w]
    rfl
  clear hK K
  refine pure_ (i := 13) (N := (some 71)) (v := ?_) (a' := ?_) #[true, true, true, true, true, true, true, true, true, true, true, true, true, true, false, false, false, false, false, false] rfl rfl (by kernel_rfl) (fun _ _ _ h => h) (Or.inl ⟨by rfl, ?_⟩) ?_ ?_
  rotate_left
  · intro w'
    go_simp
    with_reducible rfl
  rotate_left
  · simp only [Act.put, List.setIfInBounds_toArray, List.set_cons_zero, List.set_cons_succ, i64_w, i32_w]
    rfl
  refine pure_ (i := 14) (N := (some 72)) (v := ?_) (a' := ?_) #[true, true, true, true, true, true, true, true, true, true, true, true, true, true, true, false, false, false, false, false] rfl rfl (by kernel_rfl) (fun _ _ _ h => h) (Or.inl ⟨by rfl, ?_⟩) ?_ ?_
  rotate_left
  · intro w'
    go_simp
    with_reducible rfl
  rotate_left
  · simp only [Act.put, List.setIfInBounds_toArray, List.set_cons_zero, List.set_cons_succ, i64_w, i32_w]
    rfl
  refine pure_ (i := 15) (N := (some 73)) (v := ?_) (a' := ?_) #[true, true, true, true, true, true, true, true, true, true, true, true, true, true, true, true, false, false, false, false] rfl rfl (by kernel_rfl) (fun _ _ _ h => h) (Or.inl ⟨by rfl, ?_⟩) ?_ ?_
  rotate_left
  · intro w'
    go_simp
    with_reducible rfl
  rotate_left
  · simp only [Act.put, List.setIfInBounds_toArray, List.set_cons_zero, List.set_cons_succ, i64_w, i32_w]
    rfl
  refine last_ (i := 16) (N := none) #[true, true, true, true, true, true, true, true, true, true, true, true, true, true, true, true, true, false, false, false] rfl rfl (by kernel_rfl) (by decide) (fun K hK => ?_)
  have hs := (blk_cell hbg 1).trans (rfl : _ = some (Value.slice Az zs.length cz))
  have hf := blk_frozen hbg 1
  refine skip_ (w1 := w3.setCell ⟨gr, 1, none⟩ (.slice A1 (zs ++ [(⟨nm, none, 0, 0⟩ : SZ)]).length c1)) (by rfl) rfl ?run16 ?h16
  case run16 =>
    go_simp
  refine hK.out _ _ ?_
  clear hK K
  refine pure_ (i := 17) (N := (some 74)) (v := ?_) (a' := ?_) #[true, true, true, true, true, true, true, true, true, true, true, true, true, true, true, true, true, true, false, false] rfl rfl (by kernel_rfl) (fun _ _ _ h => h) (Or.inl ⟨by rfl, ?_⟩) ?_ ?_
  rotate_left
  · intro w'
    go_simp
    with_reducible rfl
  rotate_left
  · simp only [Act.put, List.setIfInBounds_toArray, List.set_cons_zero, List.set_cons_succ, i64_w, i32_w]
    rfl
  refine pure_ (i := 18) (N := (some 75)) (v := ?_) (a' := ?_) #[true, true, true, true, true, true, true, true, true, true, true, true, true, true, true, true, true, true, true, false] rfl rfl (by kernel_rfl) (fun _ _ _ h => h) (Or.inl ⟨by rfl, ?_⟩) ?_ ?_
  rotate_left
  · intro w'
    go_simp
    with_reducible rfl
  rotate_left
  · simp only [Act.put, List.setIfInBounds_toArray, List.set_cons_zero, List.set_cons_succ, i64_w, i32_w]
    rfl
  refine last_ (i := 19) (N := none) #[true, true, true, true, true, true, true, true, true, true, true, true, true, true, true, true, true, true, true, true] rfl rfl (by kernel_rfl) (by decide) (fun K hK => ?_)
  have hbg2 := blk_put hbg 1 (.slice A1 (zs.length + 1) c1) rfl
  have hs3 := (blk_cell hbg2 3).trans rfl
  have hf3 := blk_frozen hbg2 3
  refine skip_ (w1 := (w3.setCell ⟨gr, 1, none⟩ (.slice A1 (zs ++ [(⟨nm, none, 0, 0⟩ : SZ)]).length c1)).setCell ⟨gr, 3, none⟩ (.int .i64 2)) (by rfl) rfl ?run19 ?h19
  case run19 =>
    go_simp
  refine hK.out _ _ ?_
  clear hK K
  refine done_ (by kernel_rfl) ?_
  go_wp2_with fail
  go_ret
  have hln : (zs ++ [(⟨nm, none, 0, 0⟩ : SZ)]).length = zs.length + 1 := by simp
  rw [hln]
  rw [hln] at ho
  refine ⟨rfl, A1, c1, blk_put hbg2 3 _ rfl, Kd.R_set (Kd.R_set ho hbg (by decide) 1 _) hbg2 (by decide) 3 _, ?_⟩
  exact (((But.of_below (below_drew HB.out) _).trans (But.grown hg3 (fun k e => .inr e))).trans (But.setCell _ _ _ (.inl rfl))).trans (But.setCell _ _ _ (.inl rfl))
end Go.Proofs.YtmgnnplcnmhbaaaGreatDoor.PT
end
