/- Part 34 of 36 of the proof of bookAbbr_holds. What it holds was printed or written for this claim, text by text, and merged. -/
import Derived.Test.YtmgnnplcnmhbaaaGreatDoorZ33
import Derived.Test.YtmgnnplcnmhbaaaGreatDoorZ29
import Derived.Test.YtmgnnplcnmhbaaaGreatDoorZ27
import Derived.Test.YtmgnnplcnmhbaaaGreatDoorZ26
import Derived.RegionTactic
import Derived.BigRegion
section
namespace Go.Proofs.YtmgnnplcnmhbaaaGreatDoor.PT
open Go.RowKit Go.Proofs.YtmgnnplcnmhbaaaGreatDoorW.PrintWords Go.Proofs.YtmgnnplcnmhbaaaGreatDoorW.PrintLast Go.Proofs.YtmgnnplcnmhbaaaGreatDoorW.PrintMore
set_option linter.unusedVariables false
set_option linter.unusedSimpArgs false
theorem below_set' {B : Nat} {w W : World} (h : Below B w W) {p : Addr} (hp : B ≤ p.block) (u : Value) : Below B w (W.setCell p u) :=
  ⟨h.os, h.tape, h.output, by simpa [World.setCell] using h.size, fun k hk => (Below.heap_setCell W p u k (fun e => by omega)).trans (h.block k hk)⟩
structure EraSt (w0 w W : World) (base gr bl bx : Nat) (vR vL : Value) (gz cz : Nat) (cur : Array Value) (nm : ByteArray) (st : Int) (x : S39) : Prop where
  g : W.heap[gr]? = some (.cells #[vR, .slice (some ⟨gz, 0, none⟩) 1 cz, vL, .int .i64 st] 53 (0, 0))
  z : W.heap[gz]? = some (.cells cur 43 (0, 0))
  l : W.heap[bl]? = some (.cells #[.string ⟨#[101, 114, 97]⟩, .string ⟨#[49, 58, 48, 48]⟩, .string ⟨#[45, 48, 58, 48, 48]⟩, .string ⟨#[67, 69, 84]⟩] 9 (0, 0))
  x : W.heap[bx]? = some (.cells #[.int .i64 x.f0, .string x.f1, .int .i64 x.f2, .string x.f3, .int .i64 x.f4] 39 (0, 0))
  n : w.heap.size ≤ bx
  m : w0.heap.size ≤ w.heap.size
  gg : w0.heap.size ≤ gr
  k : Below w0.heap.size w0 W
  b : But w W (fun k => k = gr ∨ k = gz ∨ w.heap.size ≤ k)
theorem EraSt.below {w0 w W W' : World} {base gr bl bx : Nat} {vR vL : Value} {gz cz : Nat} {cur : Array Value} {nm : ByteArray} {st : Int} {x : S39} (h : EraSt w0 w W base gr bl bx vR vL gz cz cur nm st x) (hb : Below W.heap.size W W') : EraSt w0 w W' base gr bl bx vR vL gz cz cur nm st x :=
  ⟨blk_below h.g hb, blk_below h.z hb, blk_below h.l hb, blk_below h.x hb, h.n, h.m, h.gg, below_then h.k h.k.size hb, h.b.trans (But.of_below hb _)⟩
theorem EraSt.set {w0 w W : World} {base gr bl bx : Nat} {vR vL : Value} {gz cz : Nat} {cur : Array Value} {nm : ByteArray} {st : Int} {x : S39} (h : EraSt w0 w W base gr bl bx vR vL gz cz cur nm st x) (i : Nat) (u : Value) (y : S39) (hy : (#[.int .i64 x.f0, .string x.f1, .int .i64 x.f2, .string x.f3, .int .i64 x.f4] : Array Value).setIfInBounds i u = #[.int .i64 y.f0, .string y.f1, .int .i64 y.f2, .string y.f3, .int .i64 y.f4]) : EraSt w0 w (W.setCell ⟨bx, i, none⟩ u) base gr bl bx vR vL gz cz cur nm st y :=
  ⟨blk_far h.g (blk_ne h.g h.x (by decide)) _, blk_far h.z (blk_ne h.z h.x (by decide)) _, blk_far h.l (blk_ne h.l h.x (by decide)) _, blk_put h.x i u hy, h.n, h.m, h.gg, below_set' h.k (Nat.le_trans h.m h.n) _, h.b.trans (But.setCell _ _ _ (.inr (.inr h.n)))⟩
theorem EraSt.stage {w0 w W : World} {base gr bl bx : Nat} {vR vL : Value} {gz cz : Nat} {cur : Array Value} {nm : ByteArray} {st : Int} {x : S39} (h : EraSt w0 w W base gr bl bx vR vL gz cz cur nm st x) (u : Int) : EraSt w0 w (W.setCell ⟨gr, 3, none⟩ (.int .i64 u)) base gr bl bx vR vL gz cz cur nm u x :=
  ⟨blk_put h.g 3 _ rfl, blk_far h.z (blk_ne h.z h.g (by decide)) _, blk_far h.l (blk_ne h.l h.g (by decide)) _, blk_far h.x (blk_ne h.x h.g (by decide)) _, h.n, h.m, h.gg, below_set' h.k h.gg _, h.b.trans (But.setCell _ _ _ (.inl rfl))⟩
theorem cut_era : ∀ w, Calls Tryz.prog 69 #[.string ⟨#[45, 48, 58, 48, 48]⟩, .string ⟨#[45]⟩] w fun e w' => e = .returned (.tuple #[.string ⟨#[48, 58, 48, 48]⟩, .bool true]) ∧ w' = w := fun w => (Tryz.strings_CutPrefix ⟨#[45, 48, 58, 48, 48]⟩ ⟨#[45]⟩ w).mono fun e w' ⟨h1, h2⟩ => ⟨h1.trans (by kernel_rfl), h2⟩
set_option maxHeartbeats 4000000 in
set_option maxRecDepth 100000 in
theorem reader_era.calls (gr bl : Nat) (vR vL : Value) (gz cz : Nat) (cur : Array Value) (nm : ByteArray) (w0 w : World) (hL : LaidT w0) (h0 : Below w0.heap.size w0 w) (hgr0 : w0.heap.size ≤ gr) (hg : w.heap[gr]? = some (.cells #[vR, .slice (some ⟨gz, 0, none⟩) 1 cz, vL, .int .i64 2] 53 (0, 0))) (hr : w.heap[gz]? = some (.cells cur 43 (0, 0))) (hgz : w0.heap.size ≤ gz) (hcur : cur[1]? = some (.slice none 0 0)) (hl : w.heap[bl]? = some (.cells #[.string ⟨#[101, 114, 97]⟩, .string ⟨#[49, 58, 48, 48]⟩, .string ⟨#[45, 48, 58, 48, 48]⟩, .string ⟨#[67, 69, 84]⟩] 9 (0, 0))) :
    Calls Tryz.prog 39 #[.pointer (some ⟨gr, 0, none⟩), .slice (some ⟨bl, 0, none⟩) 4 4] w fun e w' => e = .returned (.bool true) ∧ ∃ (Ae : Option Addr) (ce : Nat), w'.heap[gr]? = some (.cells #[vR, .slice (some ⟨gz, 0, none⟩) 1 cz, vL, .int .i64 1] 53 (0, 0)) ∧ w'.heap[gz]? = some (.cells (cur.setIfInBounds 1 (.slice Ae 1 ce)) 43 (0, 0)) ∧ Kd.R k39 39 w' w0.heap.size (fun _ => True) (.slice Ae 1 ce) [⟨3600, ⟨#[]⟩, 0, ⟨#[67, 69, 84]⟩, 0⟩] ∧ But w w' (fun k => k = gr ∨ k = gz) := by
  have hu := Tryz.underlying53
  have hu2 := Tryz.underlying27
  have hu3 := Tryz.underlying43
  have hu4 := Tryz.underlying39
  have HL := Aside0.mk hL
  have HG := Aside0.mk hg
  have HR := Aside0.mk hr
  have HCU := Aside0.mk hcur
  have HGZ := Aside0.mk hgz
  have HN := Aside0.mk hl
  have q3 : w.cell? ⟨gr, 3, none⟩ = some (.int .i64 2) := (blk_cell hg 3).trans rfl
  have y1 : w.cell? ⟨bl, 1, none⟩ = some (.string ⟨#[49, 58, 48, 48]⟩) := (blk_cell hl 1).trans rfl
  have hbl := blk_lt hl
  have hgr := blk_lt hg
  have hcut : ∀ W, Calls Tryz.prog 69 #[.string ⟨#[45, 48, 58, 48, 48]⟩, .string ⟨#[45]⟩] W fun e w' => e = .returned (.tuple #[.string ⟨#[48, 58, 48, 48]⟩, .bool true]) ∧ w' = W := cut_era
  have HCUT := Aside0.mk hcut
  have H0 := Aside0.mk h0
  have HGR := Aside0.mk hgr0
  clear hL hg hr hl hcut h0 hgr0 hcur hgz
  go_enter Tryz.func39, Tryz.ntmps39
  go_wp2_with fail
  have ES : Aside0 (EraSt w0 w (w.alloc (Obj.cells #[.int .i64 0, .string ⟨#[]⟩, .int .i64 0, .string ⟨#[]⟩, .int .i64 0] 39)) w0.heap.size gr bl w.heap.size vR vL gz cz cur nm 2 ⟨0, ⟨#[]⟩, 0, ⟨#[]⟩, 0⟩) := by
    have hb := below_alloc (Below.refl w.heap.size w) (Obj.cells #[.int .i64 0, .string ⟨#[]⟩, .int .i64 0, .string ⟨#[]⟩, .int .i64 0] 39)
    exact ⟨⟨blk_below HG.out hb, blk_below HR.out hb, blk_below HN.out hb, heap_alloc_new _ _, Nat.le_refl _, H0.out.size, HGR.out, below_then H0.out H0.out.size hb, But.of_below hb _⟩⟩
  generalize w.alloc (Obj.cells #[.int .i64 0, .string ⟨#[]⟩, .int .i64 0, .string ⟨#[]⟩, .int .i64 0] 39) = w2 at ES ⊢
  obtain ⟨bx, hbX⟩ : ∃ b, b = w.heap.size := ⟨_, rfl⟩
  rw [← hbX] at ES ⊢
  have HBX := Aside0.mk hbX
  clear hbX HG HR HN q3 y1 hbl hgr
  have y1 : w2.cell? ⟨bl, 1, none⟩ = some (.string ⟨#[49, 58, 48, 48]⟩) := (blk_cell ES.out.l 1).trans rfl
  have y2 : w2.cell? ⟨bl, 2, none⟩ = some (.string ⟨#[45, 48, 58, 48, 48]⟩) := (blk_cell ES.out.l 2).trans rfl
  have y3 : w2.cell? ⟨bl, 3, none⟩ = some (.string ⟨#[67, 69, 84]⟩) := (blk_cell ES.out.l 3).trans rfl
  have q3 : w2.cell? ⟨gr, 3, none⟩ = some (.int .i64 2) := (blk_cell ES.out.g 3).trans rfl
  have q1 : w2.cell? ⟨gr, 1, none⟩ = some (.slice (some ⟨gz, 0, none⟩) 1 cz) := (blk_cell ES.out.g 1).trans rfl
  have hbl := blk_lt ES.out.l
  have hbx := blk_lt ES.out.x
  have hgr := blk_lt ES.out.g
  have hxl := blk_ne ES.out.x ES.out.l (by decide)
  have hxg := blk_ne ES.out.x ES.out.g (by decide)
  have xo0 : w2.cell? ⟨bx, 0, none⟩ = some _ := (blk_cell ES.out.x 0).trans rfl
  have xo1 : w2.cell? ⟨bx, 1, none⟩ = some _ := (blk_cell ES.out.x 1).trans rfl
  have xo2 : w2.cell? ⟨bx, 2, none⟩ = some _ := (blk_cell ES.out.x 2).trans rfl
  have xo3 : w2.cell? ⟨bx, 3, none⟩ = some _ := (blk_cell ES.out.x 3).trans rfl
  have xo4 : w2.cell? ⟨bx, 4, none⟩ = some _ := (blk_cell ES.out.x 4).trans rfl
  have fz0 := blk_frozen ES.out.x 0
  have fz1 := blk_frozen ES.out.x 1
  have fz2 := blk_frozen ES.out.x 2
  have fz3 := blk_frozen ES.out.x 3
  have fz4 := blk_frozen ES.out.x 4
  have fg3 := blk_frozen ES.out.g 3
  go_wp2_with (go_at_call 68; refine (read_100.calls _ (LaidT.sub HL.out ES.out.k)).mono ?_; rintro e' w3 ⟨rfl, hb'⟩; have ES' := Aside0.mk (ES.out.below hb'); clear hb' ES; clear y1 y2 y3 q1 q3 hbl hbx hgr hxl hxg xo0 xo1 xo2 xo3 xo4 fz0 fz1 fz2 fz3 fz4 fg3; have ES := ES'; clear ES'; have y1 : w3.cell? ⟨bl, 1, none⟩ = some (.string ⟨#[49, 58, 48, 48]⟩) := (blk_cell ES.out.l 1).trans rfl; have y2 : w3.cell? ⟨bl, 2, none⟩ = some (.string ⟨#[45, 48, 58, 48, 48]⟩) := (blk_cell ES.out.l 2).trans rfl; have y3 : w3.cell? ⟨bl, 3, none⟩ = some (.string ⟨#[67, 69, 84]⟩) := (blk_cell ES.out.l 3).trans rfl; have q3 : w3.cell? ⟨gr, 3, none⟩ = some (.int .i64 2) := (blk_cell ES.out.g 3).trans rfl; have q1 : w3.cell? ⟨gr, 1, none⟩ = some (.slice (some ⟨gz, 0, none⟩) 1 cz) := (blk_cell ES.out.g 1).trans rfl; have hbl := blk_lt ES.out.l; have hbx := blk_lt ES.out.x; have hgr := blk_lt ES.out.g; have hxl := blk_ne ES.out.x ES.out.l (by decide); have hxg := blk_ne ES.out.x ES.out.g (by decide); have xo0 : w3.cell? ⟨bx, 0, none⟩ = some _ := (blk_cell ES.out.x 0).trans rfl; have xo1 : w3.cell? ⟨bx, 1, none⟩ = some _ := (blk_cell ES.out.x 1).trans rfl; have xo2 : w3.cell? ⟨bx, 2, none⟩ = some _ := (blk_cell ES.out.x 2).trans rfl; have xo3 : w3.cell? ⟨bx, 3, none⟩ = some _ := (blk_cell ES.out.x 3).trans rfl; have xo4 : w3.cell? ⟨bx, 4, none⟩ = some _ := (blk_cell ES.out.x 4).trans rfl; have fz0 := blk_frozen ES.out.x 0; have fz1 := blk_frozen ES.out.x 1; have fz2 := blk_frozen ES.out.x 2; have fz3 := blk_frozen ES.out.x 3; have fz4 := blk_frozen ES.out.x 4; have fg3 := blk_frozen ES.out.g 3)
  have ES4 := Aside0.mk (ES.out.set 0 (.int .i64 3600) ⟨3600, ⟨#[]⟩, 0, ⟨#[]⟩, 0⟩ rfl)
  clear y1 y2 y3 q1 q3 hbl hbx hgr hxl hxg xo0 xo1 xo2 xo3 xo4 fz0 fz1 fz2 fz3 fz4 fg3
  clear ES
  generalize w3.setCell ⟨bx, 0, none⟩ (.int .i64 3600) = w4 at ES4 ⊢
  have ES := ES4
  clear ES4
  have y1 : w4.cell? ⟨bl, 1, none⟩ = some (.string ⟨#[49, 58, 48, 48]⟩) := (blk_cell ES.out.l 1).trans rfl
  have y2 : w4.cell? ⟨bl, 2, none⟩ = some (.string ⟨#[45, 48, 58, 48, 48]⟩) := (blk_cell ES.out.l 2).trans rfl
  have y3 : w4.cell? ⟨bl, 3, none⟩ = some (.string ⟨#[67, 69, 84]⟩) := (blk_cell ES.out.l 3).trans rfl
  have q3 : w4.cell? ⟨gr, 3, none⟩ = some (.int .i64 2) := (blk_cell ES.out.g 3).trans rfl
  have q1 : w4.cell? ⟨gr, 1, none⟩ = some (.slice (some ⟨gz, 0, none⟩) 1 cz) := (blk_cell ES.out.g 1).trans rfl
  have hbl := blk_lt ES.out.l
  have hbx := blk_lt ES.out.x
  have hgr := blk_lt ES.out.g
  have hxl := blk_ne ES.out.x ES.out.l (by decide)
  have hxg := blk_ne ES.out.x ES.out.g (by decide)
  have xo0 : w4.cell? ⟨bx, 0, none⟩ = some _ := (blk_cell ES.out.x 0).trans rfl
  have xo1 : w4.cell? ⟨bx, 1, none⟩ = some _ := (blk_cell ES.out.x 1).trans rfl
  have xo2 : w4.cell? ⟨bx, 2, none⟩ = some _ := (blk_cell ES.out.x 2).trans rfl
  have xo3 : w4.cell? ⟨bx, 3, none⟩ = some _ := (blk_cell ES.out.x 3).trans rfl
  have xo4 : w4.cell? ⟨bx, 4, none⟩ = some _ := (blk_cell ES.out.x 4).trans rfl
  have fz0 := blk_frozen ES.out.x 0
  have fz1 := blk_frozen ES.out.x 1
  have fz2 := blk_frozen ES.out.x 2
  have fz3 := blk_frozen ES.out.x 3
  have fz4 := blk_frozen ES.out.x 4
  have fg3 := blk_frozen ES.out.g 3
  go_region
  have ES5 := Aside0.mk (((ES.out.set 1 (.string ⟨#[45, 48, 58, 48, 48]⟩) ⟨3600, ⟨#[45, 48, 58, 48, 48]⟩, 0, ⟨#[]⟩, 0⟩ rfl).set 3 (.string ⟨#[67, 69, 84]⟩) ⟨3600, ⟨#[45, 48, 58, 48, 48]⟩, 0, ⟨#[67, 69, 84]⟩, 0⟩ rfl).below (below_drew (Below.refl _ _)))
  clear y1 y2 y3 q1 q3 hbl hbx hgr hxl hxg xo0 xo1 xo2 xo3 xo4 fz0 fz1 fz2 fz3 fz4 fg3
  clear ES
  generalize ((w4.setCell ⟨bx, 1, none⟩ (.string ⟨#[45, 48, 58, 48, 48]⟩)).setCell ⟨bx, 3, none⟩ (.string ⟨#[67, 69, 84]⟩)).drew = w5 at ES5 ⊢
  have ES := ES5
  clear ES5
  have y1 : w5.cell? ⟨bl, 1, none⟩ = some (.string ⟨#[49, 58, 48, 48]⟩) := (blk_cell ES.out.l 1).trans rfl
  have y2 : w5.cell? ⟨bl, 2, none⟩ = some (.string ⟨#[45, 48, 58, 48, 48]⟩) := (blk_cell ES.out.l 2).trans rfl
  have y3 : w5.cell? ⟨bl, 3, none⟩ = some (.string ⟨#[67, 69, 84]⟩) := (blk_cell ES.out.l 3).trans rfl
  have q3 : w5.cell? ⟨gr, 3, none⟩ = some (.int .i64 2) := (blk_cell ES.out.g 3).trans rfl
  have q1 : w5.cell? ⟨gr, 1, none⟩ = some (.slice (some ⟨gz, 0, none⟩) 1 cz) := (blk_cell ES.out.g 1).trans rfl
  have hbl := blk_lt ES.out.l
  have hbx := blk_lt ES.out.x
  have hgr := blk_lt ES.out.g
  have hxl := blk_ne ES.out.x ES.out.l (by decide)
  have hxg := blk_ne ES.out.x ES.out.g (by decide)
  have xo0 : w5.cell? ⟨bx, 0, none⟩ = some _ := (blk_cell ES.out.x 0).trans rfl
  have xo1 : w5.cell? ⟨bx, 1, none⟩ = some _ := (blk_cell ES.out.x 1).trans rfl
  have xo2 : w5.cell? ⟨bx, 2, none⟩ = some _ := (blk_cell ES.out.x 2).trans rfl
  have xo3 : w5.cell? ⟨bx, 3, none⟩ = some _ := (blk_cell ES.out.x 3).trans rfl
  have xo4 : w5.cell? ⟨bx, 4, none⟩ = some _ := (blk_cell ES.out.x 4).trans rfl
  have fz0 := blk_frozen ES.out.x 0
  have fz1 := blk_frozen ES.out.x 1
  have fz2 := blk_frozen ES.out.x 2
  have fz3 := blk_frozen ES.out.x 3
  have fz4 := blk_frozen ES.out.x 4
  have fg3 := blk_frozen ES.out.g 3
  go_wp2_with (go_at_call 69; (with_reducible refine (HCUT.out _).mono ?_); rintro e' w6 ⟨rfl, hq⟩; have hq2 := hq.symm; clear hq; subst hq2)
  have ES6 := Aside0.mk (ES.out.set 1 (.string ⟨#[]⟩) ⟨3600, ⟨#[]⟩, 0, ⟨#[67, 69, 84]⟩, 0⟩ rfl)
  clear y1 y2 y3 q1 q3 hbl hbx hgr hxl hxg xo0 xo1 xo2 xo3 xo4 fz0 fz1 fz2 fz3 fz4 fg3
  clear ES
  generalize w5.setCell ⟨bx, 1, none⟩ (.string ⟨#[]⟩) = w6 at ES6 ⊢
  have ES := ES6
  clear ES6
  have y1 : w6.cell? ⟨bl, 1, none⟩ = some (.string ⟨#[49, 58, 48, 48]⟩) := (blk_cell ES.out.l 1).trans rfl
  have y2 : w6.cell? ⟨bl, 2, none⟩ = some (.string ⟨#[45, 48, 58, 48, 48]⟩) := (blk_cell ES.out.l 2).trans rfl
  have y3 : w6.cell? ⟨bl, 3, none⟩ = some (.string ⟨#[67, 69, 84]⟩) := (blk_cell ES.out.l 3).trans rfl
  have q3 : w6.cell? ⟨gr, 3, none⟩ = some (.int .i64 2) := (blk_cell ES.out.g 3).trans rfl
  have q1 : w6.cell? ⟨gr, 1, none⟩ = some (.slice (some ⟨gz, 0, none⟩) 1 cz) := (blk_cell ES.out.g 1).trans rfl
  have hbl := blk_lt ES.out.l
  have hbx := blk_lt ES.out.x
  have hgr := blk_lt ES.out.g
  have hxl := blk_ne ES.out.x ES.out.l (by decide)
  have hxg := blk_ne ES.out.x ES.out.g (by decide)
  have xo0 : w6.cell? ⟨bx, 0, none⟩ = some _ := (blk_cell ES.out.x 0).trans rfl
  have xo1 : w6.cell? ⟨bx, 1, none⟩ = some _ := (blk_cell ES.out.x 1).trans rfl
  have xo2 : w6.cell? ⟨bx, 2, none⟩ = some _ := (blk_cell ES.out.x 2).trans rfl
  have xo3 : w6.cell? ⟨bx, 3, none⟩ = some _ := (blk_cell ES.out.x 3).trans rfl
  have xo4 : w6.cell? ⟨bx, 4, none⟩ = some _ := (blk_cell ES.out.x 4).trans rfl
  have fz0 := blk_frozen ES.out.x 0
  have fz1 := blk_frozen ES.out.x 1
  have fz2 := blk_frozen ES.out.x 2
  have fz3 := blk_frozen ES.out.x 3
  have fz4 := blk_frozen ES.out.x 4
  have fg3 := blk_frozen ES.out.g 3
  go_wp2_with (go_at_call 68; refine (read_000.calls _ (LaidT.sub HL.out ES.out.k)).mono ?_; rintro e' w7 ⟨rfl, hb'⟩; have ES' := Aside0.mk (ES.out.below hb'); clear hb' ES; clear y1 y2 y3 q1 q3 hbl hbx hgr hxl hxg xo0 xo1 xo2 xo3 xo4 fz0 fz1 fz2 fz3 fz4 fg3; have ES := ES'; clear ES'; have y1 : w7.cell? ⟨bl, 1, none⟩ = some (.string ⟨#[49, 58, 48, 48]⟩) := (blk_cell ES.out.l 1).trans rfl; have y2 : w7.cell? ⟨bl, 2, none⟩ = some (.string ⟨#[45, 48, 58, 48, 48]⟩) := (blk_cell ES.out.l 2).trans rfl; have y3 : w7.cell? ⟨bl, 3, none⟩ = some (.string ⟨#[67, 69, 84]⟩) := (blk_cell ES.out.l 3).trans rfl; have q3 : w7.cell? ⟨gr, 3, none⟩ = some (.int .i64 2) := (blk_cell ES.out.g 3).trans rfl; have q1 : w7.cell? ⟨gr, 1, none⟩ = some (.slice (some ⟨gz, 0, none⟩) 1 cz) := (blk_cell ES.out.g 1).trans rfl; have hbl := blk_lt ES.out.l; have hbx := blk_lt ES.out.x; have hgr := blk_lt ES.out.g; have hxl := blk_ne ES.out.x ES.out.l (by decide); have hxg := blk_ne ES.out.x ES.out.g (by decide); have xo0 : w7.cell? ⟨bx, 0, none⟩ = some _ := (blk_cell ES.out.x 0).trans rfl; have xo1 : w7.cell? ⟨bx, 1, none⟩ = some _ := (blk_cell ES.out.x 1).trans rfl; have xo2 : w7.cell? ⟨bx, 2, none⟩ = some _ := (blk_cell ES.out.x 2).trans rfl; have xo3 : w7.cell? ⟨bx, 3, none⟩ = some _ := (blk_cell ES.out.x 3).trans rfl; have xo4 : w7.cell? ⟨bx, 4, none⟩ = some _ := (blk_cell ES.out.x 4).trans rfl; have fz0 := blk_frozen ES.out.x 0; have fz1 := blk_frozen ES.out.x 1; have fz2 := blk_frozen ES.out.x 2; have fz3 := blk_frozen ES.out.x 3; have fz4 := blk_frozen ES.out.x 4; have fg3 := blk_frozen ES.out.g 3)
  have ES8 := Aside0.mk ((ES.out.set 2 (.int .i64 0) ⟨3600, ⟨#[]⟩, 0, ⟨#[67, 69, 84]⟩, 0⟩ rfl).stage 1)
  clear y1 y2 y3 q1 q3 hbl hbx hgr hxl hxg xo0 xo1 xo2 xo3 xo4 fz0 fz1 fz2 fz3 fz4 fg3
  clear ES
  generalize (w7.setCell ⟨bx, 2, none⟩ (.int .i64 0)).setCell ⟨gr, 3, none⟩ (.int .i64 1) = w8 at ES8 ⊢
  have ES := ES8
  clear ES8
  have y1 : w8.cell? ⟨bl, 1, none⟩ = some (.string ⟨#[49, 58, 48, 48]⟩) := (blk_cell ES.out.l 1).trans rfl
  have y2 : w8.cell? ⟨bl, 2, none⟩ = some (.string ⟨#[45, 48, 58, 48, 48]⟩) := (blk_cell ES.out.l 2).trans rfl
  have y3 : w8.cell? ⟨bl, 3, none⟩ = some (.string ⟨#[67, 69, 84]⟩) := (blk_cell ES.out.l 3).trans rfl
  have q3 : w8.cell? ⟨gr, 3, none⟩ = some (.int .i64 1) := (blk_cell ES.out.g 3).trans rfl
  have q1 : w8.cell? ⟨gr, 1, none⟩ = some (.slice (some ⟨gz, 0, none⟩) 1 cz) := (blk_cell ES.out.g 1).trans rfl
  have hbl := blk_lt ES.out.l
  have hbx := blk_lt ES.out.x
  have hgr := blk_lt ES.out.g
  have hxl := blk_ne ES.out.x ES.out.l (by decide)
  have hxg := blk_ne ES.out.x ES.out.g (by decide)
  have xo0 : w8.cell? ⟨bx, 0, none⟩ = some _ := (blk_cell ES.out.x 0).trans rfl
  have xo1 : w8.cell? ⟨bx, 1, none⟩ = some _ := (blk_cell ES.out.x 1).trans rfl
  have xo2 : w8.cell? ⟨bx, 2, none⟩ = some _ := (blk_cell ES.out.x 2).trans rfl
  have xo3 : w8.cell? ⟨bx, 3, none⟩ = some _ := (blk_cell ES.out.x 3).trans rfl
  have xo4 : w8.cell? ⟨bx, 4, none⟩ = some _ := (blk_cell ES.out.x 4).trans rfl
  have fz0 := blk_frozen ES.out.x 0
  have fz1 := blk_frozen ES.out.x 1
  have fz2 := blk_frozen ES.out.x 2
  have fz3 := blk_frozen ES.out.x 3
  have fz4 := blk_frozen ES.out.x 4
  have fg3 := blk_frozen ES.out.g 3
  have z1 : w8.cell? ⟨gz, 1, none⟩ = some (.slice none 0 0) := (blk_cell ES.out.z 1).trans HCU.out
  have hgz := blk_lt ES.out.z
  go_quiet (fail)
  go_wp2_with fail
  have ES9 := Aside0.mk (ES.out.below (pw_below_drewN (Below.refl _ _) nq))
  clear y1 y2 y3 q1 q3 hbl hbx hgr hxl hxg xo0 xo1 xo2 xo3 xo4 fz0 fz1 fz2 fz3 fz4 fg3
  clear ES z1 hgz
  generalize w8.drewN nq = w9 at ES9 ⊢
  have ES := ES9
  clear ES9
  have y1 : w9.cell? ⟨bl, 1, none⟩ = some (.string ⟨#[49, 58, 48, 48]⟩) := (blk_cell ES.out.l 1).trans rfl
  have y2 : w9.cell? ⟨bl, 2, none⟩ = some (.string ⟨#[45, 48, 58, 48, 48]⟩) := (blk_cell ES.out.l 2).trans rfl
  have y3 : w9.cell? ⟨bl, 3, none⟩ = some (.string ⟨#[67, 69, 84]⟩) := (blk_cell ES.out.l 3).trans rfl
  have q3 : w9.cell? ⟨gr, 3, none⟩ = some (.int .i64 1) := (blk_cell ES.out.g 3).trans rfl
  have q1 : w9.cell? ⟨gr, 1, none⟩ = some (.slice (some ⟨gz, 0, none⟩) 1 cz) := (blk_cell ES.out.g 1).trans rfl
  have hbl := blk_lt ES.out.l
  have hbx := blk_lt ES.out.x
  have hgr := blk_lt ES.out.g
  have hxl := blk_ne ES.out.x ES.out.l (by decide)
  have hxg := blk_ne ES.out.x ES.out.g (by decide)
  have xo0 : w9.cell? ⟨bx, 0, none⟩ = some _ := (blk_cell ES.out.x 0).trans rfl
  have xo1 : w9.cell? ⟨bx, 1, none⟩ = some _ := (blk_cell ES.out.x 1).trans rfl
  have xo2 : w9.cell? ⟨bx, 2, none⟩ = some _ := (blk_cell ES.out.x 2).trans rfl
  have xo3 : w9.cell? ⟨bx, 3, none⟩ = some _ := (blk_cell ES.out.x 3).trans rfl
  have xo4 : w9.cell? ⟨bx, 4, none⟩ = some _ := (blk_cell ES.out.x 4).trans rfl
  have fz0 := blk_frozen ES.out.x 0
  have fz1 := blk_frozen ES.out.x 1
  have fz2 := blk_frozen ES.out.x 2
  have fz3 := blk_frozen ES.out.x 3
  have fz4 := blk_frozen ES.out.x 4
  have fg3 := blk_frozen ES.out.g 3
  have z1 : w9.cell? ⟨gz, 1, none⟩ = some (.slice none 0 0) := (blk_cell ES.out.z 1).trans HCU.out
  have hgz := blk_lt ES.out.z
  go_wp2_with fail
  refine start_ (n := 11) (S := fun w' => w'.cell? ⟨gz, 1, none⟩ = some (.slice none 0 0) ∧ w'.cell? ⟨bx, 0, none⟩ = some (.int .i64 3600) ∧ w'.cell? ⟨bx, 1, none⟩ = some (.string ⟨#[]⟩) ∧ w'.cell? ⟨bx, 2, none⟩ = some (.int .i64 0) ∧ w'.cell? ⟨bx, 3, none⟩ = some (.string ⟨#[67, 69, 84]⟩) ∧ w'.cell? ⟨bx, 4, none⟩ = some (.int .i64 0)) (ds := [10]) #[false, false, false, false, false, false, false, false, false, false, false] (by kernel_rfl) rfl rfl ⟨z1, xo0, xo1, xo2, xo3, xo4⟩ (fun hHeld => ?_)
  refine pure_ (i := 0) (N := (some 90)) (v := ?_) (a' := ?_) #[true, false, false, false, false, false, false, false, false, false, false] rfl rfl (by kernel_rfl) (fun _ _ _ h => h) (Or.inl ⟨by rfl, ?_⟩) ?_ ?_
  rotate_left
  · intro w'
    go_simp
    with_reducible rfl
  rotate_left
  · simp only [Act.put, List.setIfInBounds_toArray, List.set_cons_zero, List.set_cons_succ, i64_w, i32_w]
    rfl
  refine pure_ (i := 1) (N := (some 91)) (v := ?_) (a' := ?_) #[true, true, false, false, false, false, false, false, false, false, false] rfl rfl (by kernel_rfl) (fun _ _ _ h => h) (Or.inl ⟨by rfl, ?_⟩) ?_ ?_
  rotate_left
  · intro w'
    go_simp
    with_reducible rfl
  rotate_left
  · simp only [Act.put, List.setIfInBounds_toArray, List.set_cons_zero, List.set_cons_succ, i64_w, i32_w]
    rfl
  refine pure_ (i := 2) (N := (some 92)) (v := ?_) (a' := ?_) #[true, true, true, false, false, false, false, false, false, false, false] rfl rfl (by kernel_rfl) (fun _ _ _ h => h) (Or.inl ⟨by rfl, ?_⟩) ?_ ?_
  rotate_left
  · intro w'
    go_simp
    with_reducible rfl
  rotate_left
  · simp only [Act.put, List.setIfInBounds_toArray, List.set_cons_zero, List.set_cons_succ, i64_w, i32_w]
    rfl
  refine pure_ (i := 3) (N := (some 93)) (v := ?_) (a' := ?_) #[true, true, true, true, false, false, false, false, false, false, false] rfl rfl (by kernel_rfl) (fun _ _ _ h => h) (Or.inl ⟨by rfl, ?_⟩) ?_ ?_
  rotate_left
  · intro w'
    go_simp
    with_reducible rfl
  rotate_left
  · simp only [Act.put, List.setIfInBounds_toArray, List.set_cons_zero, List.set_cons_succ, i64_w, i32_w]
    rfl
  refine take_ (i := 4) (N := (some 94)) (v := ?_) (a' := ?_) #[true, true, true, true, true, false, false, false, false, false, false] rfl rfl (by kernel_rfl) (fun _ _ _ h => h) (Or.inl ⟨by rfl, ?_⟩) hHeld ?_ ?_
  rotate_left
  · rintro w' ⟨s0, s1, s2, s3, s4, s5⟩
    go_simp
    with_reducible rfl
  rotate_left
  · simp only [Act.put, List.setIfInBounds_toArray, List.set_cons_zero, List.set_cons_succ, i64_w, i32_w]
    rfl
  refine take_ (i := 5) (N := (some 95)) (v := ?_) (a' := ?_) #[true, true, true, true, true, true, false, false, false, false, false] rfl rfl (by kernel_rfl) (fun _ _ _ h => h) (Or.inl ⟨by rfl, ?_⟩) hHeld ?_ ?_
  rotate_left
  · rintro w' ⟨s0, s1, s2, s3, s4, s5⟩
    go_simp
    with_reducible rfl
  rotate_left
  · simp only [Act.put, List.setIfInBounds_toArray, List.set_cons_zero, List.set_cons_succ, i64_w, i32_w]
    rfl
  refine one_ (i := 6) (N := (some 96)) #[true, true, true, true, true, true, true, false, false, false, false] rfl rfl (by kernel_rfl) (by decide) (fun K hK => ?_)
  refine value_ (w1 := w9.drew.alloc (Obj.cells #[.int .i64 3600, .string ⟨#[]⟩, .int .i64 0, .string ⟨#[67, 69, 84]⟩, .int .i64 0] 39)) (v := .slice (some ⟨w9.drew.heap.size, 0, none⟩) 1 1) (by rfl) rfl ?run ?h
  case run =>
    go_simp
  have hb := below_alloc (Below.refl w9.drew.heap.size w9.drew) (Obj.cells #[.int .i64 3600, .string ⟨#[]⟩, .int .i64 0, .string ⟨#[67, 69, 84]⟩, .int .i64 0] 39)
  refine hK.out _ _ ⟨(hb.cell (p := ⟨gz, 1, none⟩) hgz).trans hHeld.1, (hb.cell (p := ⟨bx, 0, none⟩) hbx).trans hHeld.2.1, (hb.cell (p := ⟨bx, 1, none⟩) hbx).trans hHeld.2.2.1, (hb.cell (p := ⟨bx, 2, none⟩) hbx).trans hHeld.2.2.2.1, (hb.cell (p := ⟨bx, 3, none⟩) hbx).trans hHeld.2.2.2.2.1, (hb.cell (p := ⟨bx, 4, none⟩) hbx).trans hHeld.2.2.2.2.2⟩ (fun hHeld => ?_)
  clear hK K
  refine one_ (i := 7) (N := (some 97)) #[true, true, true, true, true, true, true, true, false, false, false] rfl rfl (by kernel_rfl) (by decide) (fun K hK => ?_)
  refine Kd.R_append_step k39 (w0 := w9.drew) w0.heap.size (by rfl) (.tmp 94) (.tmp 96) 41 39 (.agg #[(.int .i64 0), (.string ⟨#[]⟩), (.int .i64 0), (.string ⟨#[]⟩), (.int .i64 0)]) 56 rfl Tryz.underlying41 infoE rfl (by decide) (by decide) (.slice none 0 0) [] (⟨3600, ⟨#[]⟩, 0, ⟨#[67, 69, 84]⟩, 0⟩ : S39) [.int .i64 3600, .string ⟨#[]⟩, .int .i64 0, .string ⟨#[67, 69, 84]⟩, .int .i64 0] (fun _ => True) (fun _ => False) rfl rfl ?aP (fun _ hk => hk.elim) ?aF ?aO ?aB ?aS ?aL ?_
  case aP => exact k39_mkM _ _ _ (⟨3600, ⟨#[]⟩, 0, ⟨#[67, 69, 84]⟩, 0⟩ : S39)
  case aF => exact fun _ _ => trivial
  case aO => exact Kd.R_nil _ _ _ _ _
  case aB => exact Below.refl _ _
  case aS => exact Nat.le_trans ES.out.k.size (Nat.le_refl _)
  case aL => decide
  intro v1 w3 ho hb3 hg3 hat
  obtain ⟨Ae, ce, hv1⟩ := Kd.R_slice ho
  subst hv1
  have hbz := (hg3.block gz hgz (by simp [Value.ownBlock])).trans ES.out.z
  have hbxx := (hg3.block bx hbx (by simp [Value.ownBlock])).trans ES.out.x
  refine (show K (Act.put _ (some 97) _) _ from hK.out _ _ ⟨(blk_cell hbz 1).trans HCU.out, (blk_cell hbxx 0).trans rfl, (blk_cell hbxx 1).trans rfl, (blk_cell hbxx 2).trans rfl, (blk_cell hbxx 3).trans rfl, (blk_cell hbxx 4).trans rfl⟩ (fun hHeld => ?_))
  refine norm_ (a' := ?_) ?na ?nh
  rotate_left
  · simp only [Act.put, List.setIfInBounds_toArray, List.set_cons_zero, List.set_cons_succ, i64_w, i32_w]
    rfl
  clear hK K
  refine pure_ (i := 8) (N := (some 98)) (v := ?_) (a' := ?_) #[true, true, true, true, true, true, true, true, true, false, false] rfl rfl (by kernel_rfl) (fun _ _ _ h => h) (Or.inl ⟨by rfl, ?_⟩) ?_ ?_
  rotate_left
  · intro w'
    go_simp
    with_reducible rfl
  rotate_left
  · simp only [Act.put, List.setIfInBounds_toArray, List.set_cons_zero, List.set_cons_succ, i64_w, i32_w]
    rfl
  refine pure_ (i := 9) (N := (some 99)) (v := ?_) (a' := ?_) #[true, true, true, true, true, true, true, true, true, true, false] rfl rfl (by kernel_rfl) (fun _ _ _ h => h) (Or.inl ⟨by rfl, ?_⟩) ?_ ?_
  rotate_left
  · intro w'
    go_simp
    with_reducible rfl
  rotate_left
  · simp only [Act.put, List.setIfInBounds_toArray, List.set_cons_zero, List.set_cons_succ, i64_w, i32_w]
    rfl
  refine last_ (i := 10) (N := none) #[true, true, true, true, true, true, true, true, true, true, true] rfl rfl (by kernel_rfl) (by decide) (fun K hK => ?_)
  have hs := (blk_cell hbz 1).trans HCU.out
  have hf := blk_frozen hbz 1
  refine skip_ (w1 := w3.setCell ⟨gz, 1, none⟩ (.slice Ae 1 ce)) (by rfl) rfl ?run10 ?h10
  case run10 =>
    go_simp
  refine hK.out _ _ ?_
  clear hK K
  refine done_ (by kernel_rfl) ?_
  go_wp2_with fail
  go_ret
  refine ⟨rfl, ?_, Ae, ce, blk_put hbz 1 _ rfl, Kd.R_set ho hbz (by decide) 1 _, ?_⟩
  · exact blk_far ((hg3.block gr hgr (by simp [Value.ownBlock])).trans ES.out.g) (blk_ne ES.out.g ES.out.z (by decide)) _
  · have hB := ((ES.out.b.trans (But.of_below (below_drew (Below.refl _ _)) _)).trans (But.grown hg3 (fun k e => by cases e))).trans (But.setCell w3 ⟨gz, 1, none⟩ (.slice Ae 1 ce) (bad := fun k => k = gr ∨ k = gz ∨ w.heap.size ≤ k) (.inr (.inl rfl)))
    exact ⟨hB.os, hB.tape, hB.output, hB.size, fun k hk hn => hB.block k hk (fun h => by rcases h with h | h | h; exact hn (.inl h); exact hn (.inr h); omega)⟩
end Go.Proofs.YtmgnnplcnmhbaaaGreatDoor.PT
end
section
namespace Go.Proofs.YtmgnnplcnmhbaaaGreatDoor.PT
open Go.RowKit Go.Proofs.YtmgnnplcnmhbaaaGreatDoorW.PrintWords Go.Proofs.YtmgnnplcnmhbaaaGreatDoorW.PrintLast Go.Proofs.YtmgnnplcnmhbaaaGreatDoorW.PrintMore
set_option linter.unusedVariables false
set_option linter.unusedSimpArgs false
set_option maxHeartbeats 4000000 in
set_option maxRecDepth 100000 in
theorem line_era.calls (gr : Nat) (vR vL : Value) (gz cz : Nat) (cur : Array Value) (w0 w : World) (hL : LaidT w0) (h0 : Below w0.heap.size w0 w) (hgr0 : w0.heap.size ≤ gr) (hg : w.heap[gr]? = some (.cells #[vR, .slice (some ⟨gz, 0, none⟩) 1 cz, vL, .int .i64 2] 53 (0, 0))) (hr : w.heap[gz]? = some (.cells cur 43 (0, 0))) (hgz : w0.heap.size ≤ gz) (hcur : cur[1]? = some (.slice none 0 0)) :
    Calls Tryz.prog 19 #[.pointer (some ⟨gr, 0, none⟩), .string ⟨#[101, 114, 97, 32, 49, 58, 48, 48, 32, 45, 48, 58, 48, 48, 32, 67, 69, 84]⟩] w fun e w' => e = .returned (.bool true) ∧ ∃ (Ae : Option Addr) (ce : Nat), w'.heap[gr]? = some (.cells #[vR, .slice (some ⟨gz, 0, none⟩) 1 cz, vL, .int .i64 1] 53 (0, 0)) ∧ w'.heap[gz]? = some (.cells (cur.setIfInBounds 1 (.slice Ae 1 ce)) 43 (0, 0)) ∧ Kd.R k39 39 w' w0.heap.size (fun _ => True) (.slice Ae 1 ce) [⟨3600, ⟨#[]⟩, 0, ⟨#[67, 69, 84]⟩, 0⟩] ∧ But w w' (fun k => k = gr ∨ k = gz) := by
  have hu := Tryz.underlying53
  have hu2 := Tryz.underlying27
  obtain ⟨m, hm⟩ := (LaidT.sub hL h0).most
  have HSP := Aside0.mk (split_of ⟨#[101, 114, 97, 32, 49, 58, 48, 48, 32, 45, 48, 58, 48, 48, 32, 67, 69, 84]⟩ ⟨#[32]⟩ 3 [⟨#[101, 114, 97]⟩, ⟨#[49, 58, 48, 48]⟩, ⟨#[45, 48, 58, 48, 48]⟩, ⟨#[67, 69, 84]⟩] (by decide +kernel) (by decide +kernel) (by decide) m w hm)
  have HL := Aside0.mk hL
  have H0 := Aside0.mk h0
  have HG := Aside0.mk hg
  have HR := Aside0.mk hr
  have HGR := Aside0.mk hgr0
  have HGZ := Aside0.mk hgz
  have HCU := Aside0.mk hcur
  clear hL hm hg hr h0 hgr0 hgz hcur
  go_enter Tryz.func19, Tryz.ntmps19
  go_wp2_with (first | (go_at_call 18; (with_reducible refine HSP.out.mono ?_); rintro e w2 ⟨rfl, hw2⟩; have hbB := below_alloc (Below.refl w.heap.size w) (.cells ([(⟨#[101, 114, 97]⟩ : ByteArray), ⟨#[49, 58, 48, 48]⟩, ⟨#[45, 48, 58, 48, 48]⟩, ⟨#[67, 69, 84]⟩].map Value.string).toArray 9); rw [← hw2] at hbB; have HB := Aside0.mk hbB; obtain ⟨bl, hbL⟩ : ∃ b, b = w.heap.size := ⟨_, rfl⟩; have HX2 : Aside0 (w2.heap[bl]? = some (.cells #[.string ⟨#[101, 114, 97]⟩, .string ⟨#[49, 58, 48, 48]⟩, .string ⟨#[45, 48, 58, 48, 48]⟩, .string ⟨#[67, 69, 84]⟩] 9 (0, 0))) := ⟨split_row hw2 hbL⟩; rw [← hbL]; have HBL := Aside0.mk hbL; clear hw2 hbB hbL; have y0 : w2.cell? ⟨bl, 0, none⟩ = some (.string ⟨#[101, 114, 97]⟩) := (blk_cell HX2.out 0).trans rfl; have hbl := blk_lt HX2.out) | (go_at_call 39; refine (reader_era.calls gr bl vR vL gz cz cur ⟨#[]⟩ w0 w2 HL.out (below_then H0.out H0.out.size HB.out) HGR.out (blk_below HG.out HB.out) (blk_below HR.out HB.out) HGZ.out HCU.out HX2.out).mono ?_; rintro e w3 ⟨rfl, Ae, ce, k1, k2, k3, k4⟩; have K1 := Aside0.mk k1; have K2 := Aside0.mk k2; have K3 := Aside0.mk k3; have K4 := Aside0.mk k4; clear k1 k2 k3 k4))
  go_ret
  exact ⟨rfl, Ae, ce, K1.out, K2.out, K3.out, (But.of_below HB.out _).trans K4.out⟩
theorem zone_block {w : World} {base : Nat} {A1 : Option Addr} {c1 : Nat} {nm : ByteArray} {ok : Nat → Prop} (h : Kd.R kSZ 43 w base ok (.slice A1 (([] : List SZ).length + 1) c1) ([] ++ [⟨nm, none, 0, 0⟩])) :
    ∃ gz, A1 = some ⟨gz, 0, none⟩ ∧ base ≤ gz ∧ 1 ≤ c1 ∧ ∃ cur, w.heap[gz]? = some (.cells cur 43 (0, 0)) ∧ cur[0]? = some (.string nm) ∧ cur[1]? = some (.slice none 0 0) := by
  obtain ⟨_, inner, ho, hr⟩ := h
  obtain ⟨hl, ⟨h0, h1⟩ | ⟨g, cap, cur, hv, hb, hh, hc1, hc2, hsz, htk⟩⟩ := ho
  · simp at h1
  · have hv' : A1 = some ⟨g, 0, none⟩ ∧ c1 = cap := by
      injection hv with h1 h2 h3
      exact ⟨h1, h3⟩
    have hm := kSZ_openM (hr.2 0 ⟨nm, none, 0, 0⟩ rfl)
    have hl2 : inner.length = 2 := hl
    have hin : inner = [.string nm, .slice none 0 0] := by
      have : (inner.drop (0 * 2)).take 2 = inner := by rw [Nat.zero_mul, List.drop_zero, List.take_of_length_le (by omega)]
      exact this.symm.trans hm
    have htk2 : cur.toList.take 2 = [.string nm, .slice none 0 0] := htk.trans hin
    refine ⟨g, hv'.1, hb, by rw [hv'.2]; exact hc1, cur, hh, ?_, ?_⟩
    · rw [← Array.getElem?_toList, ← List.getElem?_take_of_lt (show 0 < 2 by decide), htk2]
      rfl
    · rw [← Array.getElem?_toList, ← List.getElem?_take_of_lt (show 1 < 2 by decide), htk2]
      rfl
theorem zone_row {w : World} {base gz : Nat} {nm : ByteArray} {ok : Nat → Prop} {Ae : Option Addr} {ce : Nat} {cur : Array Value} {x : S39} (hz : w.heap[gz]? = some (.cells (cur.setIfInBounds 1 (.slice Ae 1 ce)) 43 (0, 0))) (h0 : cur[0]? = some (.string nm)) (h1 : cur[1]? = some (.slice none 0 0)) (he : Kd.R k39 39 w base ok (.slice Ae 1 ce) [x]) :
    Kd.C k43 w (some ⟨gz, 0, none⟩) 1 [⟨nm, [x]⟩] := by
  obtain ⟨A, c, hv, hc, hC⟩ := Kd.R_reads he
  have hv' : Ae = A ∧ ce = c := by
    injection hv with h1 h2 h3
    exact ⟨h1, h3⟩
  obtain ⟨rfl, rfl⟩ := hv'
  have hs1 : 1 < cur.size := (Array.getElem?_eq_some_iff.1 h1).1
  refine ⟨rfl, by decide, fun _ => ⟨⟨gz, 0, none⟩, rfl, fun j p hj => ?_⟩⟩
  have hj0 : j = 0 := by
    have := (List.getElem?_eq_some_iff.1 hj).1
    simpa using this
  subst hj0
  obtain rfl : (⟨nm, [x]⟩ : S43) = p := by simpa using hj
  refine ⟨_, rfl, k43_mk w ⟨nm, [x]⟩ hc hC, fun i u hu => ?_⟩
  have hi : i < 2 := (List.getElem?_eq_some_iff.1 hu).1
  have hcell : w.cell? ⟨gz, i, none⟩ = some u := by
    rw [blk_cell hz i]
    match i, hi with
    | 0, _ =>
      rw [Array.getElem?_setIfInBounds_ne (by decide), h0]
      exact hu
    | 1, _ =>
      rw [Array.getElem?_setIfInBounds_self_of_lt hs1]
      exact hu
  rw [show 0 * k43.sz + i = i by simp, add_plain]
  exact hcell
theorem below_then' {B : Nat} {w w1 w2 : World} (h : Below B w w1) (k : Below B w1 w2) : Below B w w2 :=
  ⟨k.os.trans h.os, k.tape.trans h.tape, k.output.trans h.output, Nat.le_trans h.size k.size, fun i hi => (k.block i hi).trans (h.block i hi)⟩
set_option maxHeartbeats 4000000 in
set_option maxRecDepth 100000 in
theorem parse_one.calls (w : World) (hL : LaidT w) :
    Calls Tryz.prog 9 #[.string ⟨#[122, 111, 110, 101, 32, 65, 10, 101, 114, 97, 32, 49, 58, 48, 48, 32, 45, 48, 58, 48, 48, 32, 67, 69, 84]⟩] w fun e w' => ∃ (A1 : Option Addr) (c1 : Nat), e = .returned (.tuple #[.agg #[.slice none 0 0, .slice A1 1 c1, .slice none 0 0], .int .i64 0, .int .i64 0]) ∧ 1 ≤ c1 ∧ Kd.C k43 w' A1 1 [⟨⟨#[65]⟩, [⟨3600, ⟨#[]⟩, 0, ⟨#[67, 69, 84]⟩, 0⟩]⟩] ∧ Below w.heap.size w w' := by
  have hu := Tryz.underlying53
  have hu2 := Tryz.underlying27
  obtain ⟨m, hm⟩ := hL.most
  have hsp := fun W (hW : Below w.heap.size w W) => split_of ⟨#[122, 111, 110, 101, 32, 65, 10, 101, 114, 97, 32, 49, 58, 48, 48, 32, 45, 48, 58, 48, 48, 32, 67, 69, 84]⟩ ⟨#[10]⟩ 1 [⟨#[122, 111, 110, 101, 32, 65]⟩, ⟨#[101, 114, 97, 32, 49, 58, 48, 48, 32, 45, 48, 58, 48, 48, 32, 67, 69, 84]⟩] (by decide +kernel) (by decide +kernel) (by decide) m W (pw_cell_below hW hm)
  have HSP := Aside0.mk hsp
  have HL := Aside0.mk hL
  clear hL hm hsp
  go_enter Tryz.func9, Tryz.ntmps9
  go_wp2_with fail
  have HBr : Aside0 (((w.alloc (Obj.cells #[.slice none 0 0, .slice none 0 0, .slice none 0 0] 27)).alloc (Obj.cells #[.slice none 0 0, .slice none 0 0, .slice none 0 0, .int .i64 0] 53)).heap[w.heap.size]? = some (.cells #[.slice none 0 0, .slice none 0 0, .slice none 0 0] 27 (0, 0))) := ⟨((below_alloc (Below.refl _ (w.alloc (Obj.cells #[.slice none 0 0, .slice none 0 0, .slice none 0 0] 27))) (Obj.cells #[.slice none 0 0, .slice none 0 0, .slice none 0 0, .int .i64 0] 53)).block w.heap.size (by simp)).trans (heap_alloc_new w (Obj.cells #[.slice none 0 0, .slice none 0 0, .slice none 0 0] 27))⟩
  have HGr : Aside0 (((w.alloc (Obj.cells #[.slice none 0 0, .slice none 0 0, .slice none 0 0] 27)).alloc (Obj.cells #[.slice none 0 0, .slice none 0 0, .slice none 0 0, .int .i64 0] 53)).heap[w.heap.size + 1]? = some (.cells #[.slice none 0 0, .slice none 0 0, .slice none 0 0, .int .i64 0] 53 (0, 0))) := ⟨by have h := heap_alloc_new (w.alloc (Obj.cells #[.slice none 0 0, .slice none 0 0, .slice none 0 0] 27)) (Obj.cells #[.slice none 0 0, .slice none 0 0, .slice none 0 0, .int .i64 0] 53); rw [World.size_alloc] at h; exact h⟩
  have HB := Aside0.mk (below_alloc (below_alloc (Below.refl w.heap.size w) (Obj.cells #[.slice none 0 0, .slice none 0 0, .slice none 0 0] 27)) (Obj.cells #[.slice none 0 0, .slice none 0 0, .slice none 0 0, .int .i64 0] 53))
  generalize (w.alloc (Obj.cells #[.slice none 0 0, .slice none 0 0, .slice none 0 0] 27)).alloc (Obj.cells #[.slice none 0 0, .slice none 0 0, .slice none 0 0, .int .i64 0] 53) = w2 at HBr HGr HB ⊢
  obtain ⟨gr, hbG⟩ : ∃ b, b = w.heap.size + 1 := ⟨_, rfl⟩
  obtain ⟨br, hbR⟩ : ∃ b, b = w.heap.size := ⟨_, rfl⟩
  rw [← hbG] at HGr
  rw [← hbR] at HBr
  simp only [← hbG]
  simp only [← hbR]
  have HGG := Aside0.mk hbG
  have HBB := Aside0.mk hbR
  clear hbG hbR
  go_wp2_with (go_at_call 18; (with_reducible refine (HSP.out _ HB.out).mono ?_); rintro e w3 ⟨rfl, hw3⟩; have hbB := below_alloc (Below.refl w2.heap.size w2) (.cells ([(⟨#[122, 111, 110, 101, 32, 65]⟩ : ByteArray), ⟨#[101, 114, 97, 32, 49, 58, 48, 48, 32, 45, 48, 58, 48, 48, 32, 67, 69, 84]⟩].map Value.string).toArray 9); rw [← hw3] at hbB; have HB2 := Aside0.mk hbB; obtain ⟨bl, hbL⟩ : ∃ b, b = w2.heap.size := ⟨_, rfl⟩; have HXl : Aside0 (w3.heap[bl]? = some (.cells #[.string ⟨#[122, 111, 110, 101, 32, 65]⟩, .string ⟨#[101, 114, 97, 32, 49, 58, 48, 48, 32, 45, 48, 58, 48, 48, 32, 67, 69, 84]⟩] 9 (0, 0))) := ⟨split_row hw3 hbL⟩; rw [← hbL]; clear hw3 hbB hbL; have y0 : w3.cell? ⟨bl, 0, none⟩ = some (.string ⟨#[122, 111, 110, 101, 32, 65]⟩) := (blk_cell HXl.out 0).trans rfl; have hbl := blk_lt HXl.out)
  have HBr3 := Aside0.mk (blk_below HBr.out HB2.out)
  have HGr3 := Aside0.mk (blk_below HGr.out HB2.out)
  have HB3 := Aside0.mk (below_then HB.out HB.out.size HB2.out)
  clear HBr HGr HB HB2 HSP
  refine wp_loop_rounds 3 ?_
  rw [rounds_succ]
  go_wp2_with (go_at_call 19; refine (line_zone.calls gr _ _ none 0 [] w.heap.size ⟨#[122, 111, 110, 101, 32, 65]⟩ ⟨#[65]⟩ (by decide +kernel) (by decide +kernel) (by decide) (by decide) _ (LaidT.sub HL.out HB3.out) HGr3.out (Kd.R_nil _ _ _ _ _) HB3.out.size).mono ?_; rintro e w4 ⟨rfl, A1, c1, k1, k2, k3⟩; have K1 := Aside0.mk k1; have K2 := Aside0.mk k2; have K3 := Aside0.mk k3; clear k1 k2 k3)
  obtain ⟨gz, hA, hz1, hc1, cur, hz3, hz4⟩ := zone_block K2.out
  cases hA
  have hgg : w.heap.size ≤ gr := by have := HGG.out; omega
  have HB4 : Aside0 (Below w.heap.size w w4) := ⟨below_then' HB3.out (K3.out.below HB3.out.size (fun k hk => by rcases hk with rfl | h; exact hgg; cases h))⟩
  have HBr4 : Aside0 (w4.heap[br]? = _) := ⟨(K3.out.block br (blk_lt HBr3.out) (fun hk => by rcases hk with h | h; exact blk_ne HBr3.out HGr3.out (by decide) h; cases h)).trans HBr3.out⟩
  have HXl4 : Aside0 (w4.heap[bl]? = _) := ⟨(K3.out.block bl hbl (fun hk => by rcases hk with h | h; exact blk_ne HXl.out HGr3.out (by decide) h; cases h)).trans HXl.out⟩
  have HG4 := K1
  clear y0 hbl HBr3 HXl HGr3 K1 K3
  have y1 : w4.cell? ⟨bl, 1, none⟩ = some (.string ⟨#[101, 114, 97, 32, 49, 58, 48, 48, 32, 45, 48, 58, 48, 48, 32, 67, 69, 84]⟩) := (blk_cell HXl4.out 1).trans rfl
  have hbl := blk_lt HXl4.out
  have HZ4 := Aside0.mk hz3
  have HCU := Aside0.mk hz4
  clear hz3 hz4
  rw [rounds_succ]
  go_wp2_with (go_at_call 19; refine (line_era.calls gr _ _ gz _ cur w _ HL.out HB4.out hgg HG4.out HZ4.out hz1 HCU.out.2).mono ?_; rintro e w5 ⟨rfl, Ae, ce, k1, k2, k3, k4⟩; have K1 := Aside0.mk k1; have K5 := Aside0.mk k2; have K6 := Aside0.mk k3; have K7 := Aside0.mk k4; clear k1 k2 k3 k4)
  have HB5 : Aside0 (Below w.heap.size w w5) := ⟨below_then' HB4.out (K7.out.below HB4.out.size (fun k hk => by rcases hk with rfl | rfl; exact hgg; exact hz1))⟩
  have HBr5 : Aside0 (w5.heap[br]? = _) := ⟨(K7.out.block br (blk_lt HBr4.out) (fun hk => by rcases hk with h | h; exact blk_ne HBr4.out HG4.out (by decide) h; exact blk_ne HBr4.out HZ4.out (by decide) h)).trans HBr4.out⟩
  have HG5 := K1
  have HZ5 := K5
  have HE5 := K6
  clear y1 hbl HXl4 HBr4 HG4 HZ4 K1 K5 K6 K7 HB4 K2
  have HC5 := Aside0.mk (zone_row HZ5.out HCU.out.1 HCU.out.2 HE5.out)
  have q0 : w5.cell? ⟨gr, 0, none⟩ = some (.slice none 0 0) := (blk_cell HG5.out 0).trans rfl
  have q1 : w5.cell? ⟨gr, 1, none⟩ = some (.slice (some ⟨gz, 0, none⟩) 1 c1) := (blk_cell HG5.out 1).trans rfl
  have q2 : w5.cell? ⟨gr, 2, none⟩ = some (.slice none 0 0) := (blk_cell HG5.out 2).trans rfl
  have q3 : w5.cell? ⟨gr, 3, none⟩ = some (.int .i64 1) := (blk_cell HG5.out 3).trans rfl
  have hgr := blk_lt HG5.out
  rw [rounds_succ]
  go_wp2_with (go_at_call 14; refine (book_Check.calls 60 none 0 [] (some ⟨gz, 0, none⟩) c1 [⟨⟨#[65]⟩, [⟨3600, ⟨#[]⟩, 0, ⟨#[67, 69, 84]⟩, 0⟩]⟩] none 0 [] 0 _ (LaidT.sub HL.out HB5.out) (Kd.C_nil _ _) (Nat.le_refl _) HC5.out hc1 (Kd.C_nil _ _) (Nat.le_refl _) (by decide +kernel)).mono ?_; rintro e w6 ⟨rfl, hb'⟩; have HB6 := Aside0.mk (below_then HB5.out HB5.out.size hb'); have HG6 := Aside0.mk (blk_below HG5.out hb'); have HBr6 := Aside0.mk (blk_below HBr5.out hb'); have HZ6 := Aside0.mk (blk_below HZ5.out hb'); have HE6 := Aside0.mk (Kd.R_below HE5.out hb'); clear hb' q0 q1 q2 q3 hgr; have q0 : w6.cell? ⟨gr, 0, none⟩ = some (.slice none 0 0) := (blk_cell HG6.out 0).trans rfl; have q1 : w6.cell? ⟨gr, 1, none⟩ = some (.slice (some ⟨gz, 0, none⟩) 1 c1) := (blk_cell HG6.out 1).trans rfl; have q2 : w6.cell? ⟨gr, 2, none⟩ = some (.slice none 0 0) := (blk_cell HG6.out 2).trans rfl; have hgr := blk_lt HG6.out; have r0 := blk_cell HBr6.out 0; have r1 := blk_cell HBr6.out 1; have r2 := blk_cell HBr6.out 2; have f0 := blk_frozen HBr6.out 0; have f1 := blk_frozen HBr6.out 1; have f2 := blk_frozen HBr6.out 2; have hbr := blk_lt HBr6.out)
  have hbrn : w.heap.size ≤ br := by have := HBB.out; omega
  have b1 := blk_put HBr6.out 0 (.slice none 0 0) rfl
  have b2 := blk_put b1 1 (.slice (some ⟨gz, 0, none⟩) 1 c1) rfl
  have b3 := blk_put b2 2 (.slice none 0 0) rfl
  have hne := blk_ne HZ6.out HBr6.out (by decide)
  refine bodyPost_ret (results_ctt rfl _ _ br 27 #[.slice none 0 0, .slice (some ⟨gz, 0, none⟩) 1 c1, .slice none 0 0] (0, 0) _ rfl b3 Tryz.underlying27 rfl (by kernel_rfl)) rfl ?_
  refine ⟨some ⟨gz, 0, none⟩, c1, rfl, hc1, zone_row (blk_far (blk_far (blk_far HZ6.out hne _) hne _) hne _) HCU.out.1 HCU.out.2 (Kd.R_set (Kd.R_set (Kd.R_set HE6.out HBr6.out (by decide) 0 _) b1 (by decide) 1 _) b2 (by decide) 2 _), ?_⟩
  exact below_set' (below_set' (below_set' HB6.out hbrn _) hbrn _) hbrn _
theorem addr0 (a : Addr) : a.add 0 = a := by unfold Addr.add; simp
def timeballkeep_booked.f : Option Bool := some true
set_option maxHeartbeats 4000000 in
set_option maxRecDepth 100000 in
theorem timeballkeep_booked.calls (r : Bool) (w : World) (hL : LaidT w) (h : timeballkeep_booked.f = some r) :
    Calls Tryz.prog 8 #[] w fun e w' => e = .returned (.bool r) ∧ Below w.heap.size w w' := by
  obtain rfl := Option.some.inj h
  have hu2 := Tryz.underlying27
  have hu3 := Tryz.underlying43
  have hu4 := Tryz.underlying39
  have HL := Aside0.mk hL
  clear h hL
  go_enter Tryz.func8, Tryz.ntmps8
  go_wp2_with (go_at_call 9; refine (parse_one.calls _ HL.out).mono ?_; rintro e w2 ⟨A1, c1, rfl, hc1, hC, hb'⟩; have HB := Aside0.mk hb'; obtain ⟨ac, A2, c2, e1, p0, p1, hc2, hE⟩ := at_T43 hC 0 (by decide) (by decide); obtain ⟨ad, e2, r0, r1, r2, r3, r4⟩ := at_T39 hE 0 (by decide) (by decide); cases e1; cases e2; simp [rd_T43, rd_T39, addr0] at p0 p1 r0; have hl1 := World.block_lt_of_cell? _ _ p1; have hl2 := World.block_lt_of_cell? _ _ r0; clear hC hb' hE r1 r2 r3 r4 hc2)
  go_ret
  exact ⟨rfl, below_alloc HB.out _⟩
end Go.Proofs.YtmgnnplcnmhbaaaGreatDoor.PT
end
section
namespace Go.Proofs.YtmgnnplcnmhbaaaGreatDoor.PT
open Go.RowKit Go.Proofs.YtmgnnplcnmhbaaaGreatDoorW.PrintWords Go.Proofs.YtmgnnplcnmhbaaaGreatDoorW.PrintLast Go.Proofs.YtmgnnplcnmhbaaaGreatDoorW.PrintMore
attribute [local go_sem] max2_int min2_int max_two min_two max_three min_three max_four min_four   -- for this text's walks alone
set_option linter.unusedVariables false
set_option linter.unusedSimpArgs false
def timeballref_Rest.f (a0 : Int) (a1 : Int) : Option (Int) := if a1 = 0 then (none) else (if (Int.tmod a0 a1) < 0 then (some (wrap64 ((Int.tmod a0 a1) + a1))) else (some (Int.tmod a0 a1)))
set_option maxHeartbeats 8000000 in
set_option maxRecDepth 100000 in
theorem timeballref_Rest.calls (a0 : Int) (a1 : Int) (r : Int) (w : World) (h : timeballref_Rest.f a0 a1 = some r) :
    Calls Tryz.prog 11 #[.int .i64 a0, .int .i64 a1] w fun e w' => e = .returned (.int .i64 r) ∧ Drawn0 w w' := by
  have H : (if a1 = 0 then (none) else (if (Int.tmod a0 a1) < 0 then (some (wrap64 ((Int.tmod a0 a1) + a1))) else (some (Int.tmod a0 a1)))) = some r := h
  clear h
  by_cases c3 : a1 = 0
  · rw [if_pos c3] at H
    exact absurd H (by simp)
  · rw [if_neg c3] at H
    have c3b0 : (a1 == 0) = false := beq_eq_false_iff_ne.mpr c3
    have c3b1 : (a1 != 0) = true := bne_iff_ne.mpr c3
    by_cases c4 : (Int.tmod a0 a1) < 0
    · rw [if_pos c4] at H
      have c4b0 : decide ((Int.tmod a0 a1) < 0) = true := decide_eq_true c4
      clear c4
      obtain rfl := Option.some.inj H
      go_enter Tryz.func11, Tryz.ntmps11
      go_wp2
      go_ret
      exact ⟨by first | rfl | (simp; done) | (simp [*]; done), by repeat (first | exact Drawn0.refl _ | apply Drawn0.step)⟩
    · rw [if_neg c4] at H
      have c4b0 : decide ((Int.tmod a0 a1) < 0) = false := decide_eq_false c4
      clear c4
      obtain rfl := Option.some.inj H
      go_enter Tryz.func11, Tryz.ntmps11
      go_wp2
      go_ret
      exact ⟨by first | rfl | (simp; done) | (simp [*]; done), by repeat (first | exact Drawn0.refl _ | apply Drawn0.step)⟩
end Go.Proofs.YtmgnnplcnmhbaaaGreatDoor.PT
end
section
namespace Go.Proofs.YtmgnnplcnmhbaaaGreatDoor.PT
open Go.RowKit Go.Proofs.YtmgnnplcnmhbaaaGreatDoorW.PrintWords Go.Proofs.YtmgnnplcnmhbaaaGreatDoorW.PrintLast Go.Proofs.YtmgnnplcnmhbaaaGreatDoorW.PrintMore
attribute [local go_sem] max2_int min2_int max_two min_two max_three min_three max_four min_four   -- for this text's walks alone
set_option linter.unusedVariables false
set_option linter.unusedSimpArgs false
mutual
def timeballkeep_BookAbbr.j0 : Nat → ByteArray → ByteArray → Int → Bool → Option (Bool)
  | 0, _, _, _, _ => none
  | k + 1, x0, x1, x3, x42 => if x42 = true then (some false) else ((rule_IsAbbr.f k x0).bind fun t129 => (if t129 = true then ((rule_IsAbbr.f k x1).bind fun t130 => (if t130 = true then (timeballkeep_BookAbbr.j1 k x0 x1 x3 (decide ((wrap64 ((x0.size : Int) + (x1.size : Int))) > 11))) else (timeballkeep_BookAbbr.j1 k x0 x1 x3 true))) else (timeballkeep_BookAbbr.j1 k x0 x1 x3 true)))
def timeballkeep_BookAbbr.j1 : Nat → ByteArray → ByteArray → Int → Bool → Option (Bool)
  | 0, _, _, _, _ => none
  | k + 1, x0, x1, x3, x58 => if x58 = true then (some true) else (if x0.size + 1 ≤ 9223372036854775807 then (if (x0 ++ (⟨#[47]⟩ : ByteArray)).size + x1.size ≤ 9223372036854775807 then ((book_Abbr.f k ((x0 ++ (⟨#[47]⟩ : ByteArray)) ++ x1) 0 (⟨#[45]⟩ : ByteArray)).bind fun bt131 => ((book_Abbr.f k ((x0 ++ (⟨#[47]⟩ : ByteArray)) ++ x1) x3 (⟨#[45]⟩ : ByteArray)).bind fun bt133 => (if bt131.2 = 0 then (if bt133.2 = 0 then (if bt131.1.toList = x0.toList then (some (bt133.1.toList == x1.toList)) else (some false)) else (some false)) else (some false)))) else (none)) else (none))
end
def timeballkeep_BookAbbr.f (k : Nat) (a0 : ByteArray) (a1 : ByteArray) (a2 : ByteArray) (a3 : Int) : Option (Bool) := (timeballkeep_booked.f).bind fun t123 => (if t123 = true then ((timeballref_Rest.f a3 10800).bind fun t124 => ((book_Abbr.f k a0 (wrap64 (t124 + 1)) a2).bind fun bt125 => (if bt125.2 = 0 then ((rule_IsAbbr.f k bt125.1).bind fun t127 => (if t127 = true then ((rule_IsAbbr.f k a0).bind fun t128 => (if t128 = true then (timeballkeep_BookAbbr.j0 k a0 a1 (wrap64 (t124 + 1)) (bt125.1.toList != a0.toList)) else (timeballkeep_BookAbbr.j0 k a0 a1 (wrap64 (t124 + 1)) false))) else (timeballkeep_BookAbbr.j0 k a0 a1 (wrap64 (t124 + 1)) true))) else (timeballkeep_BookAbbr.j0 k a0 a1 (wrap64 (t124 + 1)) false)))) else (some false))
theorem timeballkeep_BookAbbr.mono_l : ∀ k, (∀ y0 y1 y2 y3, LeO (timeballkeep_BookAbbr.j0 k y0 y1 y2 y3) (timeballkeep_BookAbbr.j0 (k + 1) y0 y1 y2 y3)) ∧ (∀ y0 y1 y2 y3, LeO (timeballkeep_BookAbbr.j1 k y0 y1 y2 y3) (timeballkeep_BookAbbr.j1 (k + 1) y0 y1 y2 y3))
  | 0 => ⟨fun _ _ _ _ r h => by simp [timeballkeep_BookAbbr.j0] at h, fun _ _ _ _ r h => by simp [timeballkeep_BookAbbr.j1] at h⟩
  | k + 1 => by
    obtain ⟨ih0, ih1⟩ := timeballkeep_BookAbbr.mono_l k
    refine ⟨?_, ?_⟩
    · intro y0 y1 y2 y3
      unfold timeballkeep_BookAbbr.j0
      repeat' first
      | (with_reducible exact ih0 _ _ _ _)
      | (with_reducible exact ih1 _ _ _ _)
      | (with_reducible exact book_Abbr.mono _ _ _ _)
      | (with_reducible exact rule_IsAbbr.mono _ _)
      | (with_reducible exact LeO.refl _)
      | (with_reducible exact LeO.none _)
      | (with_reducible refine LeO.ite ?_ ?_)
      | (with_reducible refine LeO.bind ?_ (fun _ => ?_))
      | exact ih0 _ _ _ _
      | exact ih1 _ _ _ _
      | exact book_Abbr.mono _ _ _ _
      | exact rule_IsAbbr.mono _ _
      | exact LeO.none _
      | refine LeO.ite ?_ ?_
      | refine LeO.bind ?_ (fun _ => ?_)
    · intro y0 y1 y2 y3
      unfold timeballkeep_BookAbbr.j1
      repeat' first
      | (with_reducible exact ih0 _ _ _ _)
      | (with_reducible exact ih1 _ _ _ _)
      | (with_reducible exact book_Abbr.mono _ _ _ _)
      | (with_reducible exact rule_IsAbbr.mono _ _)
      | (with_reducible exact LeO.refl _)
      | (with_reducible exact LeO.none _)
      | (with_reducible refine LeO.ite ?_ ?_)
      | (with_reducible refine LeO.bind ?_ (fun _ => ?_))
      | exact ih0 _ _ _ _
      | exact ih1 _ _ _ _
      | exact book_Abbr.mono _ _ _ _
      | exact rule_IsAbbr.mono _ _
      | exact LeO.none _
      | refine LeO.ite ?_ ?_
      | refine LeO.bind ?_ (fun _ => ?_)
theorem timeballkeep_BookAbbr.mono : ∀ a0 a1 a2 a3 k, LeO (timeballkeep_BookAbbr.f k a0 a1 a2 a3) (timeballkeep_BookAbbr.f (k + 1) a0 a1 a2 a3) := by
  intro a0 a1 a2 a3 k
  obtain ⟨ih0, ih1⟩ := timeballkeep_BookAbbr.mono_l k
  unfold timeballkeep_BookAbbr.f
  repeat' first
      | (with_reducible exact ih0 _ _ _ _)
      | (with_reducible exact ih1 _ _ _ _)
      | (with_reducible exact book_Abbr.mono _ _ _ _)
      | (with_reducible exact rule_IsAbbr.mono _ _)
      | (with_reducible exact LeO.refl _)
      | (with_reducible exact LeO.none _)
      | (with_reducible refine LeO.ite ?_ ?_)
      | (with_reducible refine LeO.bind ?_ (fun _ => ?_))
      | exact ih0 _ _ _ _
      | exact ih1 _ _ _ _
      | exact book_Abbr.mono _ _ _ _
      | exact rule_IsAbbr.mono _ _
      | exact LeO.none _
      | refine LeO.ite ?_ ?_
      | refine LeO.bind ?_ (fun _ => ?_)
set_option maxHeartbeats 8000000 in
set_option maxRecDepth 100000 in
theorem timeballkeep_BookAbbr.calls (k : Nat) (a0 : ByteArray) (a1 : ByteArray) (a2 : ByteArray) (a3 : Int) (r : Bool) (w : World) (hL : LaidT w) (h : timeballkeep_BookAbbr.f k a0 a1 a2 a3 = some r) :
    Calls Tryz.prog 4 #[.string a0, .string a1, .string a2, .int .i64 a3] w fun e w' => e = .returned (.bool r) ∧ Below w.heap.size w w' := by
  have HB := Aside0.mk (Below.refl w.heap.size w)
  have HLA := Aside0.mk hL
  clear hL
  have H : ((timeballkeep_booked.f).bind fun t123 => (if t123 = true then ((timeballref_Rest.f a3 10800).bind fun t124 => ((book_Abbr.f k a0 (wrap64 (t124 + 1)) a2).bind fun bt125 => (if bt125.2 = 0 then ((rule_IsAbbr.f k bt125.1).bind fun t127 => (if t127 = true then ((rule_IsAbbr.f k a0).bind fun t128 => (if t128 = true then (timeballkeep_BookAbbr.j0 k a0 a1 (wrap64 (t124 + 1)) (bt125.1.toList != a0.toList)) else (timeballkeep_BookAbbr.j0 k a0 a1 (wrap64 (t124 + 1)) false))) else (timeballkeep_BookAbbr.j0 k a0 a1 (wrap64 (t124 + 1)) true))) else (timeballkeep_BookAbbr.j0 k a0 a1 (wrap64 (t124 + 1)) false)))) else (some false))) = some r := h
  clear h
  replace H := Option.bind_eq_some_iff.mp H
  obtain ⟨t123, A50, H⟩ := H
  replace H : (if t123 = true then ((timeballref_Rest.f a3 10800).bind fun t124 => ((book_Abbr.f k a0 (wrap64 (t124 + 1)) a2).bind fun bt125 => (if bt125.2 = 0 then ((rule_IsAbbr.f k bt125.1).bind fun t127 => (if t127 = true then ((rule_IsAbbr.f k a0).bind fun t128 => (if t128 = true then (timeballkeep_BookAbbr.j0 k a0 a1 (wrap64 (t124 + 1)) (bt125.1.toList != a0.toList)) else (timeballkeep_BookAbbr.j0 k a0 a1 (wrap64 (t124 + 1)) false))) else (timeballkeep_BookAbbr.j0 k a0 a1 (wrap64 (t124 + 1)) true))) else (timeballkeep_BookAbbr.j0 k a0 a1 (wrap64 (t124 + 1)) false)))) else (some false)) = some r := H
  have A5 := Aside0.mk A50
  clear A50
  by_cases c6 : t123 = true
  · subst c6
    have H1 : ((timeballref_Rest.f a3 10800).bind fun t124 => ((book_Abbr.f k a0 (wrap64 (t124 + 1)) a2).bind fun bt125 => (if bt125.2 = 0 then ((rule_IsAbbr.f k bt125.1).bind fun t127 => (if t127 = true then ((rule_IsAbbr.f k a0).bind fun t128 => (if t128 = true then (timeballkeep_BookAbbr.j0 k a0 a1 (wrap64 (t124 + 1)) (bt125.1.toList != a0.toList)) else (timeballkeep_BookAbbr.j0 k a0 a1 (wrap64 (t124 + 1)) false))) else (timeballkeep_BookAbbr.j0 k a0 a1 (wrap64 (t124 + 1)) true))) else (timeballkeep_BookAbbr.j0 k a0 a1 (wrap64 (t124 + 1)) false)))) = some r := by rw [if_pos rfl] at H; exact H
    clear H
    have H := H1
    clear H1
    replace H := Option.bind_eq_some_iff.mp H
    obtain ⟨t124, A70, H⟩ := H
    replace H : ((book_Abbr.f k a0 (wrap64 (t124 + 1)) a2).bind fun bt125 => (if bt125.2 = 0 then ((rule_IsAbbr.f k bt125.1).bind fun t127 => (if t127 = true then ((rule_IsAbbr.f k a0).bind fun t128 => (if t128 = true then (timeballkeep_BookAbbr.j0 k a0 a1 (wrap64 (t124 + 1)) (bt125.1.toList != a0.toList)) else (timeballkeep_BookAbbr.j0 k a0 a1 (wrap64 (t124 + 1)) false))) else (timeballkeep_BookAbbr.j0 k a0 a1 (wrap64 (t124 + 1)) true))) else (timeballkeep_BookAbbr.j0 k a0 a1 (wrap64 (t124 + 1)) false))) = some r := H
    have A7 := Aside0.mk A70
    clear A70
    replace H := Option.bind_eq_some_iff.mp H
    obtain ⟨⟨t125, t126⟩, A80, H⟩ := H
    replace H : (if t126 = 0 then ((rule_IsAbbr.f k t125).bind fun t127 => (if t127 = true then ((rule_IsAbbr.f k a0).bind fun t128 => (if t128 = true then (timeballkeep_BookAbbr.j0 k a0 a1 (wrap64 (t124 + 1)) (t125.toList != a0.toList)) else (timeballkeep_BookAbbr.j0 k a0 a1 (wrap64 (t124 + 1)) false))) else (timeballkeep_BookAbbr.j0 k a0 a1 (wrap64 (t124 + 1)) true))) else (timeballkeep_BookAbbr.j0 k a0 a1 (wrap64 (t124 + 1)) false)) = some r := H
    have A8 := Aside0.mk A80
    clear A80
    have HC9 := Aside0.mk H
    clear H
    go_enter Tryz.func4, Tryz.ntmps4
    go_upto_region 5 with (first | ((with_reducible refine gate_callee (f := 8) rfl ?_); refine goesL_ (some 15) rfl rfl Tryz.func8 (by kernel_rfl) rfl #[] rfl (by (try simp only [List.map_toArray, List.map_cons, List.map_nil]); first | done | rfl | (simp only [List.length_drop, List.length_take]; rfl)) ?_; (with_reducible refine (timeballkeep_booked.calls  true _ ?side1 A5.out).mono ?_); (case side1 => exact LaidT.sub HLA.out (by repeat (first | (with_reducible first | exact HB.out | apply below_alloc | apply pw_below_drewN | apply below_drew1) | exact HB.out))); rintro e w10 ⟨rfl, hb⟩; refine ⟨_, rfl, ?_⟩; have n0_ := Aside0.mk (below_step (by repeat (first | (with_reducible first | exact HB.out | apply below_alloc | apply pw_below_drewN | apply below_drew1) | exact HB.out)) hb); clear HB; have HB := n0_; clear n0_; (try clear hb); (try clear hb2); (try clear hk); (try clear hi)) | ((with_reducible refine gate_callee (f := 11) rfl ?_); refine goesL_ (some 18) rfl rfl Tryz.func11 (by kernel_rfl) rfl #[.int .i64 a3, .int .i64 10800] rfl (by (try simp only [List.map_toArray, List.map_cons, List.map_nil]); first | done | rfl | (simp only [List.length_drop, List.length_take]; rfl)) ?_; (with_reducible refine (timeballref_Rest.calls a3 10800 t124 _ A7.out).mono ?_); rintro e w' ⟨rfl, ⟨nd, rfl⟩⟩; refine ⟨_, rfl, ?_⟩) | ((with_reducible refine gate_callee (f := 12) rfl ?_); refine goesL_ (some 24) rfl rfl Tryz.func12 (by kernel_rfl) rfl #[.string a0, .int .i64 (wrap64 (t124 + 1)), .string a2] rfl (by (try simp only [List.map_toArray, List.map_cons, List.map_nil]); first | done | rfl | (simp only [List.length_drop, List.length_take]; rfl)) ?_; (with_reducible refine (book_Abbr.calls k a0 (wrap64 (t124 + 1)) a2 t125 t126 _ ?side1 A8.out).mono ?_); (case side1 => exact LaidT.sub HLA.out (by repeat (first | (with_reducible first | exact HB.out | apply below_alloc | apply pw_below_drewN | apply below_drew1) | exact HB.out))); rintro e w11 ⟨rfl, hb⟩; refine ⟨_, rfl, ?_⟩; have n0_ := Aside0.mk (below_step (by repeat (first | (with_reducible first | exact HB.out | apply below_alloc | apply pw_below_drewN | apply below_drew1) | exact HB.out)) hb); clear HB; have HB := n0_; clear n0_; (try clear hb); (try clear hb2); (try clear hk); (try clear hi)))
    (try simp only [Act.put, List.setIfInBounds_toArray, List.set_cons_zero, List.set_cons_succ])
    go_cut [42] (fun v42 wc => ∃ (kq : Nat) (x42_8 : Bool), v42 = .bool x42_8 ∧ Aside0 (timeballkeep_BookAbbr.j0 kq a0 a1 (wrap64 (t124 + 1)) x42_8 = some r) ∧ Aside0 (kq ≤ k) ∧ Aside0 (Below w.heap.size w wc))
    case first =>
      have H := HC9.out
      clear HC9
      by_cases c12 : t126 = 0
      · rw [if_pos c12] at H
        have c12b0 : (t126 == 0) = true := beq_iff_eq.mpr c12
        have c12b1 : (t126 != 0) = false := bne_eq_false_iff_eq.mpr c12
        clear c12
        (first | rw [c12b0] | (simp only [i64_w, i32_w]; rw [c12b0]) | skip)
        replace H := Option.bind_eq_some_iff.mp H
        obtain ⟨t127, A130, H⟩ := H
        replace H : (if t127 = true then ((rule_IsAbbr.f k a0).bind fun t128 => (if t128 = true then (timeballkeep_BookAbbr.j0 k a0 a1 (wrap64 (t124 + 1)) (t125.toList != a0.toList)) else (timeballkeep_BookAbbr.j0 k a0 a1 (wrap64 (t124 + 1)) false))) else (timeballkeep_BookAbbr.j0 k a0 a1 (wrap64 (t124 + 1)) true)) = some r := H
        have A13 := Aside0.mk A130
        clear A130
        by_cases c14 : t127 = true
        · subst c14
          have H1 : ((rule_IsAbbr.f k a0).bind fun t128 => (if t128 = true then (timeballkeep_BookAbbr.j0 k a0 a1 (wrap64 (t124 + 1)) (t125.toList != a0.toList)) else (timeballkeep_BookAbbr.j0 k a0 a1 (wrap64 (t124 + 1)) false))) = some r := by rw [if_pos rfl] at H; exact H
          clear H
          have H := H1
          clear H1
          replace H := Option.bind_eq_some_iff.mp H
          obtain ⟨t128, A150, H⟩ := H
          replace H : (if t128 = true then (timeballkeep_BookAbbr.j0 k a0 a1 (wrap64 (t124 + 1)) (t125.toList != a0.toList)) else (timeballkeep_BookAbbr.j0 k a0 a1 (wrap64 (t124 + 1)) false)) = some r := H
          have A15 := Aside0.mk A150
          clear A150
          by_cases c16 : t128 = true
          · subst c16
            have H1 : (timeballkeep_BookAbbr.j0 k a0 a1 (wrap64 (t124 + 1)) (t125.toList != a0.toList)) = some r := by rw [if_pos rfl] at H; exact H
            clear H
            have H := H1
            clear H1
            have H' := Aside0.mk H
            clear H
            go_wp2_with (first | (go_at_call 13; (with_reducible refine (rule_IsAbbr.calls k t125 true _ ?side1 A13.out).mono ?_); (case side1 => exact LaidT.sub HLA.out (by repeat (first | (with_reducible first | exact HB.out | apply below_alloc | apply pw_below_drewN | apply below_drew1) | exact HB.out))); rintro e w17 ⟨rfl, hb⟩; have n0_ := Aside0.mk (below_step (by repeat (first | (with_reducible first | exact HB.out | apply below_alloc | apply pw_below_drewN | apply below_drew1) | exact HB.out)) hb); clear HB; have HB := n0_; clear n0_; (try clear hb); (try clear hb2); (try clear hk); (try clear hi)) | (go_at_call 13; (with_reducible refine (rule_IsAbbr.calls k a0 true _ ?side1 A15.out).mono ?_); (case side1 => exact LaidT.sub HLA.out (by repeat (first | (with_reducible first | exact HB.out | apply below_alloc | apply pw_below_drewN | apply below_drew1) | exact HB.out))); rintro e w18 ⟨rfl, hb⟩; have n0_ := Aside0.mk (below_step (by repeat (first | (with_reducible first | exact HB.out | apply below_alloc | apply pw_below_drewN | apply below_drew1) | exact HB.out)) hb); clear HB; have HB := n0_; clear n0_; (try clear hb); (try clear hb2); (try clear hk); (try clear hi)))
            go_meet
            case rel => exact ⟨_, ((t125.toList != a0.toList)), (by first | rfl | (simp; done) | (simp [*]; done)), H', ⟨by first | omega | exact Nat.le_refl _⟩, ⟨by repeat (first | (with_reducible first | exact HB.out | apply below_alloc | apply pw_below_drewN | apply below_drew1) | exact HB.out)⟩⟩
          · replace c16 := Bool.eq_false_iff.mpr c16
            subst c16
            have H1 : (timeballkeep_BookAbbr.j0 k a0 a1 (wrap64 (t124 + 1)) false) = some r := by rw [if_neg (show ¬ (false = true) by decide)] at H; exact H
            clear H
            have H := H1
            clear H1
            have H' := Aside0.mk H
            clear H
            go_wp2_with (first | (go_at_call 13; (with_reducible refine (rule_IsAbbr.calls k t125 true _ ?side1 A13.out).mono ?_); (case side1 => exact LaidT.sub HLA.out (by repeat (first | (with_reducible first | exact HB.out | apply below_alloc | apply pw_below_drewN | apply below_drew1) | exact HB.out))); rintro e w19 ⟨rfl, hb⟩; have n0_ := Aside0.mk (below_step (by repeat (first | (with_reducible first | exact HB.out | apply below_alloc | apply pw_below_drewN | apply below_drew1) | exact HB.out)) hb); clear HB; have HB := n0_; clear n0_; (try clear hb); (try clear hb2); (try clear hk); (try clear hi)) | (go_at_call 13; (with_reducible refine (rule_IsAbbr.calls k a0 false _ ?side1 A15.out).mono ?_); (case side1 => exact LaidT.sub HLA.out (by repeat (first | (with_reducible first | exact HB.out | apply below_alloc | apply pw_below_drewN | apply below_drew1) | exact HB.out))); rintro e w20 ⟨rfl, hb⟩; have n0_ := Aside0.mk (below_step (by repeat (first | (with_reducible first | exact HB.out | apply below_alloc | apply pw_below_drewN | apply below_drew1) | exact HB.out)) hb); clear HB; have HB := n0_; clear n0_; (try clear hb); (try clear hb2); (try clear hk); (try clear hi)))
            go_meet
            case rel => exact ⟨_, (false), (by first | rfl | (simp; done) | (simp [*]; done)), H', ⟨by first | omega | exact Nat.le_refl _⟩, ⟨by repeat (first | (with_reducible first | exact HB.out | apply below_alloc | apply pw_below_drewN | apply below_drew1) | exact HB.out)⟩⟩
        · replace c14 := Bool.eq_false_iff.mpr c14
          subst c14
          have H1 : (timeballkeep_BookAbbr.j0 k a0 a1 (wrap64 (t124 + 1)) true) = some r := by rw [if_neg (show ¬ (false = true) by decide)] at H; exact H
          clear H
          have H := H1
          clear H1
          have H' := Aside0.mk H
          clear H
          go_wp2_with (first | (go_at_call 13; (with_reducible refine (rule_IsAbbr.calls k t125 false _ ?side1 A13.out).mono ?_); (case side1 => exact LaidT.sub HLA.out (by repeat (first | (with_reducible first | exact HB.out | apply below_alloc | apply pw_below_drewN | apply below_drew1) | exact HB.out))); rintro e w21 ⟨rfl, hb⟩; have n0_ := Aside0.mk (below_step (by repeat (first | (with_reducible first | exact HB.out | apply below_alloc | apply pw_below_drewN | apply below_drew1) | exact HB.out)) hb); clear HB; have HB := n0_; clear n0_; (try clear hb); (try clear hb2); (try clear hk); (try clear hi)))
          go_meet
          case rel => exact ⟨_, (true), (by first | rfl | (simp; done) | (simp [*]; done)), H', ⟨by first | omega | exact Nat.le_refl _⟩, ⟨by repeat (first | (with_reducible first | exact HB.out | apply below_alloc | apply pw_below_drewN | apply below_drew1) | exact HB.out)⟩⟩
      · rw [if_neg c12] at H
        have c12b0 : (t126 == 0) = false := beq_eq_false_iff_ne.mpr c12
        have c12b1 : (t126 != 0) = true := bne_iff_ne.mpr c12
        (first | rw [c12b0] | (simp only [i64_w, i32_w]; rw [c12b0]) | skip)
        have H' := Aside0.mk H
        clear H
        go_wp2
        go_meet
        case rel => exact ⟨_, (false), (by first | rfl | (simp; done) | (simp [*]; done)), H', ⟨by first | omega | exact Nat.le_refl _⟩, ⟨by repeat (first | (with_reducible first | exact HB.out | apply below_alloc | apply pw_below_drewN | apply below_drew1) | exact HB.out)⟩⟩
    case rest =>
      clear HC9
      try clear c1
      try clear p2
      try clear c4
      try clear c6
      try clear p6
      try clear c8
      try clear c11
      try clear c12
      try clear c12b0
      try clear c12b1
      try clear c14
      try clear c16
      obtain ⟨kq, x42_8, rfl, HA, HJ8, HB⟩ := hcut
      cases kq with
      | zero => exact absurd HA.out (by simp [timeballkeep_BookAbbr.j0])
      | succ kj8 =>
        have H := HA.out
        clear HA
        simp only [timeballkeep_BookAbbr.j0] at H
        by_cases c22 : x42_8 = true
        · subst c22
          have H1 : (some false) = some r := by rw [if_pos rfl] at H; exact H
          clear H
          have H := H1
          clear H1
          obtain rfl := Option.some.inj H
          go_wp2
          go_ret
          exact ⟨by first | rfl | (simp [errW_none, errW_some] <;> rfl) | (simp [*, errW_none, errW_some] <;> rfl), by repeat (first | (with_reducible first | exact HB.out | apply below_alloc | apply pw_below_drewN | apply below_drew1) | exact HB.out)⟩
        · replace c22 := Bool.eq_false_iff.mpr c22
          subst c22
          have H1 : ((rule_IsAbbr.f kj8 a0).bind fun t129 => (if t129 = true then ((rule_IsAbbr.f kj8 a1).bind fun t130 => (if t130 = true then (timeballkeep_BookAbbr.j1 kj8 a0 a1 (wrap64 (t124 + 1)) (decide ((wrap64 ((a0.size : Int) + (a1.size : Int))) > 11))) else (timeballkeep_BookAbbr.j1 kj8 a0 a1 (wrap64 (t124 + 1)) true))) else (timeballkeep_BookAbbr.j1 kj8 a0 a1 (wrap64 (t124 + 1)) true))) = some r := by rw [if_neg (show ¬ (false = true) by decide)] at H; exact H
          clear H
          have H := H1
          clear H1
          have HC23 := Aside0.mk H
          clear H
          go_upto_region 7 with (fail)
          go_cut [58] (fun v58 wc => ∃ (kq : Nat) (x58_22 : Bool), v58 = .bool x58_22 ∧ Aside0 (timeballkeep_BookAbbr.j1 kq a0 a1 (wrap64 (t124 + 1)) x58_22 = some r) ∧ Aside0 (kq ≤ kj8) ∧ Aside0 (Below w.heap.size w wc))
          case first =>
            have H := HC23.out
            clear HC23
            replace H := Option.bind_eq_some_iff.mp H
            obtain ⟨t129, A240, H⟩ := H
            replace H : (if t129 = true then ((rule_IsAbbr.f kj8 a1).bind fun t130 => (if t130 = true then (timeballkeep_BookAbbr.j1 kj8 a0 a1 (wrap64 (t124 + 1)) (decide ((wrap64 ((a0.size : Int) + (a1.size : Int))) > 11))) else (timeballkeep_BookAbbr.j1 kj8 a0 a1 (wrap64 (t124 + 1)) true))) else (timeballkeep_BookAbbr.j1 kj8 a0 a1 (wrap64 (t124 + 1)) true)) = some r := H
            have A24 := Aside0.mk A240
            clear A240
            by_cases c25 : t129 = true
            · subst c25
              have H1 : ((rule_IsAbbr.f kj8 a1).bind fun t130 => (if t130 = true then (timeballkeep_BookAbbr.j1 kj8 a0 a1 (wrap64 (t124 + 1)) (decide ((wrap64 ((a0.size : Int) + (a1.size : Int))) > 11))) else (timeballkeep_BookAbbr.j1 kj8 a0 a1 (wrap64 (t124 + 1)) true))) = some r := by rw [if_pos rfl] at H; exact H
              clear H
              have H := H1
              clear H1
              replace H := Option.bind_eq_some_iff.mp H
              obtain ⟨t130, A260, H⟩ := H
              replace H : (if t130 = true then (timeballkeep_BookAbbr.j1 kj8 a0 a1 (wrap64 (t124 + 1)) (decide ((wrap64 ((a0.size : Int) + (a1.size : Int))) > 11))) else (timeballkeep_BookAbbr.j1 kj8 a0 a1 (wrap64 (t124 + 1)) true)) = some r := H
              have A26 := Aside0.mk A260
              clear A260
              by_cases c27 : t130 = true
              · subst c27
                have H1 : (timeballkeep_BookAbbr.j1 kj8 a0 a1 (wrap64 (t124 + 1)) (decide ((wrap64 ((a0.size : Int) + (a1.size : Int))) > 11))) = some r := by rw [if_pos rfl] at H; exact H
                clear H
                have H := H1
                clear H1
                have H' := Aside0.mk H
                clear H
                go_wp2_with (first | ((with_reducible refine gate_callee (f := 13) rfl ?_); refine goesL_ (some 44) rfl rfl Tryz.func13 (by kernel_rfl) rfl #[.string a0] rfl (by (try simp only [List.map_toArray, List.map_cons, List.map_nil]); first | done | rfl | (simp only [List.length_drop, List.length_take]; rfl)) ?_; (with_reducible refine (rule_IsAbbr.calls kj8 a0 true _ ?side1 A24.out).mono ?_); (case side1 => exact LaidT.sub HLA.out (by repeat (first | (with_reducible first | exact HB.out | apply below_alloc | apply pw_below_drewN | apply below_drew1) | exact HB.out))); rintro e w28 ⟨rfl, hb⟩; refine ⟨_, rfl, ?_⟩; have n0_ := Aside0.mk (below_step (by repeat (first | (with_reducible first | exact HB.out | apply below_alloc | apply pw_below_drewN | apply below_drew1) | exact HB.out)) hb); clear HB; have HB := n0_; clear n0_; (try clear hb); (try clear hb2); (try clear hk); (try clear hi)) | (go_at_call 13; (with_reducible refine (rule_IsAbbr.calls kj8 a1 true _ ?side1 A26.out).mono ?_); (case side1 => exact LaidT.sub HLA.out (by repeat (first | (with_reducible first | exact HB.out | apply below_alloc | apply pw_below_drewN | apply below_drew1) | exact HB.out))); rintro e w29 ⟨rfl, hb⟩; have n0_ := Aside0.mk (below_step (by repeat (first | (with_reducible first | exact HB.out | apply below_alloc | apply pw_below_drewN | apply below_drew1) | exact HB.out)) hb); clear HB; have HB := n0_; clear n0_; (try clear hb); (try clear hb2); (try clear hk); (try clear hi)))
                go_meet
                case rel => exact ⟨_, (decide ((wrap64 ((a0.size : Int) + (a1.size : Int))) > 11)), (by first | rfl | (simp; done) | (simp [*]; done)), H', ⟨by have := HJ8.out; first | omega | exact Nat.le_refl _⟩, ⟨by repeat (first | (with_reducible first | exact HB.out | apply below_alloc | apply pw_below_drewN | apply below_drew1) | exact HB.out)⟩⟩
              · replace c27 := Bool.eq_false_iff.mpr c27
                subst c27
                have H1 : (timeballkeep_BookAbbr.j1 kj8 a0 a1 (wrap64 (t124 + 1)) true) = some r := by rw [if_neg (show ¬ (false = true) by decide)] at H; exact H
                clear H
                have H := H1
                clear H1
                have H' := Aside0.mk H
                clear H
                go_wp2_with (first | ((with_reducible refine gate_callee (f := 13) rfl ?_); refine goesL_ (some 44) rfl rfl Tryz.func13 (by kernel_rfl) rfl #[.string a0] rfl (by (try simp only [List.map_toArray, List.map_cons, List.map_nil]); first | done | rfl | (simp only [List.length_drop, List.length_take]; rfl)) ?_; (with_reducible refine (rule_IsAbbr.calls kj8 a0 true _ ?side1 A24.out).mono ?_); (case side1 => exact LaidT.sub HLA.out (by repeat (first | (with_reducible first | exact HB.out | apply below_alloc | apply pw_below_drewN | apply below_drew1) | exact HB.out))); rintro e w30 ⟨rfl, hb⟩; refine ⟨_, rfl, ?_⟩; have n0_ := Aside0.mk (below_step (by repeat (first | (with_reducible first | exact HB.out | apply below_alloc | apply pw_below_drewN | apply below_drew1) | exact HB.out)) hb); clear HB; have HB := n0_; clear n0_; (try clear hb); (try clear hb2); (try clear hk); (try clear hi)) | (go_at_call 13; (with_reducible refine (rule_IsAbbr.calls kj8 a1 false _ ?side1 A26.out).mono ?_); (case side1 => exact LaidT.sub HLA.out (by repeat (first | (with_reducible first | exact HB.out | apply below_alloc | apply pw_below_drewN | apply below_drew1) | exact HB.out))); rintro e w31 ⟨rfl, hb⟩; have n0_ := Aside0.mk (below_step (by repeat (first | (with_reducible first | exact HB.out | apply below_alloc | apply pw_below_drewN | apply below_drew1) | exact HB.out)) hb); clear HB; have HB := n0_; clear n0_; (try clear hb); (try clear hb2); (try clear hk); (try clear hi)))
                go_meet
                case rel => exact ⟨_, (true), (by first | rfl | (simp; done) | (simp [*]; done)), H', ⟨by have := HJ8.out; first | omega | exact Nat.le_refl _⟩, ⟨by repeat (first | (with_reducible first | exact HB.out | apply below_alloc | apply pw_below_drewN | apply below_drew1) | exact HB.out)⟩⟩
            · replace c25 := Bool.eq_false_iff.mpr c25
              subst c25
              have H1 : (timeballkeep_BookAbbr.j1 kj8 a0 a1 (wrap64 (t124 + 1)) true) = some r := by rw [if_neg (show ¬ (false = true) by decide)] at H; exact H
              clear H
              have H := H1
              clear H1
              have H' := Aside0.mk H
              clear H
              go_wp2_with (first | ((with_reducible refine gate_callee (f := 13) rfl ?_); refine goesL_ (some 44) rfl rfl Tryz.func13 (by kernel_rfl) rfl #[.string a0] rfl (by (try simp only [List.map_toArray, List.map_cons, List.map_nil]); first | done | rfl | (simp only [List.length_drop, List.length_take]; rfl)) ?_; (with_reducible refine (rule_IsAbbr.calls kj8 a0 false _ ?side1 A24.out).mono ?_); (case side1 => exact LaidT.sub HLA.out (by repeat (first | (with_reducible first | exact HB.out | apply below_alloc | apply pw_below_drewN | apply below_drew1) | exact HB.out))); rintro e w32 ⟨rfl, hb⟩; refine ⟨_, rfl, ?_⟩; have n0_ := Aside0.mk (below_step (by repeat (first | (with_reducible first | exact HB.out | apply below_alloc | apply pw_below_drewN | apply below_drew1) | exact HB.out)) hb); clear HB; have HB := n0_; clear n0_; (try clear hb); (try clear hb2); (try clear hk); (try clear hi)))
              go_meet
              case rel => exact ⟨_, (true), (by first | rfl | (simp; done) | (simp [*]; done)), H', ⟨by have := HJ8.out; first | omega | exact Nat.le_refl _⟩, ⟨by repeat (first | (with_reducible first | exact HB.out | apply below_alloc | apply pw_below_drewN | apply below_drew1) | exact HB.out)⟩⟩
          case rest =>
            clear HC23
            try clear c1
            try clear c2
            try clear p2
            try clear c4
            try clear c6
            try clear p6
            try clear c8
            try clear c11
            try clear c12
            try clear c12b0
            try clear c12b1
            try clear c13
            try clear c14
            try clear c16
            try clear c22
            try clear c25
            try clear c27
            try clear p2
            try clear p6
            obtain ⟨kq, x58_22, rfl, HA, HJ22, HB⟩ := hcut
            cases kq with
            | zero => exact absurd HA.out (by simp [timeballkeep_BookAbbr.j1])
            | succ kj22 =>
              have H := HA.out
              clear HA
              simp only [timeballkeep_BookAbbr.j1] at H
              by_cases c33 : x58_22 = true
              · subst c33
                have H1 : (some true) = some r := by rw [if_pos rfl] at H; exact H
                clear H
                have H := H1
                clear H1
                obtain rfl := Option.some.inj H
                go_wp2
                go_ret
                exact ⟨by first | rfl | (simp [errW_none, errW_some] <;> rfl) | (simp [*, errW_none, errW_some] <;> rfl), by repeat (first | (with_reducible first | exact HB.out | apply below_alloc | apply pw_below_drewN | apply below_drew1) | exact HB.out)⟩
              · replace c33 := Bool.eq_false_iff.mpr c33
                subst c33
                have H1 : (if a0.size + 1 ≤ 9223372036854775807 then (if (a0 ++ (⟨#[47]⟩ : ByteArray)).size + a1.size ≤ 9223372036854775807 then ((book_Abbr.f kj22 ((a0 ++ (⟨#[47]⟩ : ByteArray)) ++ a1) 0 (⟨#[45]⟩ : ByteArray)).bind fun bt131 => ((book_Abbr.f kj22 ((a0 ++ (⟨#[47]⟩ : ByteArray)) ++ a1) (wrap64 (t124 + 1)) (⟨#[45]⟩ : ByteArray)).bind fun bt133 => (if bt131.2 = 0 then (if bt133.2 = 0 then (if bt131.1.toList = a0.toList then (some (bt133.1.toList == a1.toList)) else (some false)) else (some false)) else (some false)))) else (none)) else (none)) = some r := by rw [if_neg (show ¬ (false = true) by decide)] at H; exact H
                clear H
                have H := H1
                clear H1
                by_cases c34 : a0.size + 1 ≤ 9223372036854775807
                · rw [if_pos c34] at H
                  have c34b0 := eq_true c34
                  have c34b1 : decide (a0.size + 1 ≤ 9223372036854775807) = true := decide_eq_true c34
                  try have c34b2 : (9223372036854775807 < a0.size + 1) = False := eq_false (Nat.not_lt.2 c34)
                  by_cases c35 : (a0 ++ (⟨#[47]⟩ : ByteArray)).size + a1.size ≤ 9223372036854775807
                  · rw [if_pos c35] at H
                    have c35b0 := eq_true c35
                    have c35b1 : decide ((a0 ++ (⟨#[47]⟩ : ByteArray)).size + a1.size ≤ 9223372036854775807) = true := decide_eq_true c35
                    try have c35b2 : (9223372036854775807 < (a0 ++ (⟨#[47]⟩ : ByteArray)).size + a1.size) = False := eq_false (Nat.not_lt.2 c35)
                    have c35E : (a0.size + 1) + a1.size ≤ 9223372036854775807 := by have h_ := c35; simp only [ByteArray.size_append, ba_size, List.size_toArray, List.length_cons, List.length_nil] at h_; omega
                    have c35E0 := eq_true c35E
                    have c35E1 : decide ((a0.size + 1) + a1.size ≤ 9223372036854775807) = true := decide_eq_true c35E
                    try have c35E2 : (9223372036854775807 < (a0.size + 1) + a1.size) = False := eq_false (Nat.not_lt.2 c35E)
                    replace H := Option.bind_eq_some_iff.mp H
                    obtain ⟨⟨t131, t132⟩, A360, H⟩ := H
                    replace H : ((book_Abbr.f kj22 ((a0 ++ (⟨#[47]⟩ : ByteArray)) ++ a1) (wrap64 (t124 + 1)) (⟨#[45]⟩ : ByteArray)).bind fun bt133 => (if t132 = 0 then (if bt133.2 = 0 then (if t131.toList = a0.toList then (some (bt133.1.toList == a1.toList)) else (some false)) else (some false)) else (some false))) = some r := H
                    have A36 := Aside0.mk A360
                    clear A360
                    replace H := Option.bind_eq_some_iff.mp H
                    obtain ⟨⟨t133, t134⟩, A370, H⟩ := H
                    replace H : (if t132 = 0 then (if t134 = 0 then (if t131.toList = a0.toList then (some (t133.toList == a1.toList)) else (some false)) else (some false)) else (some false)) = some r := H
                    have A37 := Aside0.mk A370
                    clear A370
                    by_cases c38 : t132 = 0
                    · rw [if_pos c38] at H
                      have c38b0 : (t132 == 0) = true := beq_iff_eq.mpr c38
                      have c38b1 : (t132 != 0) = false := bne_eq_false_iff_eq.mpr c38
                      clear c38
                      by_cases c39 : t134 = 0
                      · rw [if_pos c39] at H
                        have c39b0 : (t134 == 0) = true := beq_iff_eq.mpr c39
                        have c39b1 : (t134 != 0) = false := bne_eq_false_iff_eq.mpr c39
                        clear c39
                        by_cases c40 : t131.toList = a0.toList
                        · rw [if_pos c40] at H
                          have c40b0 : (t131.toList == a0.toList) = true := beq_iff_eq.mpr c40
                          have c40b1 : (t131.toList != a0.toList) = false := bne_eq_false_iff_eq.mpr c40
                          clear c40
                          obtain rfl := Option.some.inj H
                          go_wp2_with (first | ((with_reducible refine gate_callee (f := 12) rfl ?_); refine goesL_ (some 64) rfl rfl Tryz.func12 (by kernel_rfl) rfl #[.string ((a0 ++ (⟨#[47]⟩ : ByteArray)) ++ a1), .int .i64 0, .string (⟨#[45]⟩ : ByteArray)] rfl (by (try simp only [List.map_toArray, List.map_cons, List.map_nil]); first | done | rfl | (simp only [List.length_drop, List.length_take]; rfl)) ?_; (with_reducible refine (book_Abbr.calls kj22 ((a0 ++ (⟨#[47]⟩ : ByteArray)) ++ a1) 0 (⟨#[45]⟩ : ByteArray) t131 t132 _ ?side1 A36.out).mono ?_); (case side1 => exact LaidT.sub HLA.out (by repeat (first | (with_reducible first | exact HB.out | apply below_alloc | apply pw_below_drewN | apply below_drew1) | exact HB.out))); rintro e w41 ⟨rfl, hb⟩; refine ⟨_, rfl, ?_⟩; have n0_ := Aside0.mk (below_step (by repeat (first | (with_reducible first | exact HB.out | apply below_alloc | apply pw_below_drewN | apply below_drew1) | exact HB.out)) hb); clear HB; have HB := n0_; clear n0_; (try clear hb); (try clear hb2); (try clear hk); (try clear hi)) | ((with_reducible refine gate_callee (f := 12) rfl ?_); refine goesL_ (some 73) rfl rfl Tryz.func12 (by kernel_rfl) rfl #[.string ((a0 ++ (⟨#[47]⟩ : ByteArray)) ++ a1), .int .i64 (wrap64 (t124 + 1)), .string (⟨#[45]⟩ : ByteArray)] rfl (by (try simp only [List.map_toArray, List.map_cons, List.map_nil]); first | done | rfl | (simp only [List.length_drop, List.length_take]; rfl)) ?_; (with_reducible refine (book_Abbr.calls kj22 ((a0 ++ (⟨#[47]⟩ : ByteArray)) ++ a1) (wrap64 (t124 + 1)) (⟨#[45]⟩ : ByteArray) t133 t134 _ ?side1 A37.out).mono ?_); (case side1 => exact LaidT.sub HLA.out (by repeat (first | (with_reducible first | exact HB.out | apply below_alloc | apply pw_below_drewN | apply below_drew1) | exact HB.out))); rintro e w42 ⟨rfl, hb⟩; refine ⟨_, rfl, ?_⟩; have n0_ := Aside0.mk (below_step (by repeat (first | (with_reducible first | exact HB.out | apply below_alloc | apply pw_below_drewN | apply below_drew1) | exact HB.out)) hb); clear HB; have HB := n0_; clear n0_; (try clear hb); (try clear hb2); (try clear hk); (try clear hi)))
                          go_ret
                          exact ⟨by first | rfl | (simp [errW_none, errW_some] <;> rfl) | (simp [*, errW_none, errW_some] <;> rfl), by repeat (first | (with_reducible first | exact HB.out | apply below_alloc | apply pw_below_drewN | apply below_drew1) | exact HB.out)⟩
                        · rw [if_neg c40] at H
                          have c40b0 : (t131.toList == a0.toList) = false := beq_eq_false_iff_ne.mpr c40
                          have c40b1 : (t131.toList != a0.toList) = true := bne_iff_ne.mpr c40
                          obtain rfl := Option.some.inj H
                          go_wp2_with (first | ((with_reducible refine gate_callee (f := 12) rfl ?_); refine goesL_ (some 64) rfl rfl Tryz.func12 (by kernel_rfl) rfl #[.string ((a0 ++ (⟨#[47]⟩ : ByteArray)) ++ a1), .int .i64 0, .string (⟨#[45]⟩ : ByteArray)] rfl (by (try simp only [List.map_toArray, List.map_cons, List.map_nil]); first | done | rfl | (simp only [List.length_drop, List.length_take]; rfl)) ?_; (with_reducible refine (book_Abbr.calls kj22 ((a0 ++ (⟨#[47]⟩ : ByteArray)) ++ a1) 0 (⟨#[45]⟩ : ByteArray) t131 t132 _ ?side1 A36.out).mono ?_); (case side1 => exact LaidT.sub HLA.out (by repeat (first | (with_reducible first | exact HB.out | apply below_alloc | apply pw_below_drewN | apply below_drew1) | exact HB.out))); rintro e w43 ⟨rfl, hb⟩; refine ⟨_, rfl, ?_⟩; have n0_ := Aside0.mk (below_step (by repeat (first | (with_reducible first | exact HB.out | apply below_alloc | apply pw_below_drewN | apply below_drew1) | exact HB.out)) hb); clear HB; have HB := n0_; clear n0_; (try clear hb); (try clear hb2); (try clear hk); (try clear hi)) | ((with_reducible refine gate_callee (f := 12) rfl ?_); refine goesL_ (some 73) rfl rfl Tryz.func12 (by kernel_rfl) rfl #[.string ((a0 ++ (⟨#[47]⟩ : ByteArray)) ++ a1), .int .i64 (wrap64 (t124 + 1)), .string (⟨#[45]⟩ : ByteArray)] rfl (by (try simp only [List.map_toArray, List.map_cons, List.map_nil]); first | done | rfl | (simp only [List.length_drop, List.length_take]; rfl)) ?_; (with_reducible refine (book_Abbr.calls kj22 ((a0 ++ (⟨#[47]⟩ : ByteArray)) ++ a1) (wrap64 (t124 + 1)) (⟨#[45]⟩ : ByteArray) t133 t134 _ ?side1 A37.out).mono ?_); (case side1 => exact LaidT.sub HLA.out (by repeat (first | (with_reducible first | exact HB.out | apply below_alloc | apply pw_below_drewN | apply below_drew1) | exact HB.out))); rintro e w44 ⟨rfl, hb⟩; refine ⟨_, rfl, ?_⟩; have n0_ := Aside0.mk (below_step (by repeat (first | (with_reducible first | exact HB.out | apply below_alloc | apply pw_below_drewN | apply below_drew1) | exact HB.out)) hb); clear HB; have HB := n0_; clear n0_; (try clear hb); (try clear hb2); (try clear hk); (try clear hi)))
                          go_ret
                          exact ⟨by first | rfl | (simp [errW_none, errW_some] <;> rfl) | (simp [*, errW_none, errW_some] <;> rfl), by repeat (first | (with_reducible first | exact HB.out | apply below_alloc | apply pw_below_drewN | apply below_drew1) | exact HB.out)⟩
                      · rw [if_neg c39] at H
                        have c39b0 : (t134 == 0) = false := beq_eq_false_iff_ne.mpr c39
                        have c39b1 : (t134 != 0) = true := bne_iff_ne.mpr c39
                        obtain rfl := Option.some.inj H
                        go_wp2_with (first | ((with_reducible refine gate_callee (f := 12) rfl ?_); refine goesL_ (some 64) rfl rfl Tryz.func12 (by kernel_rfl) rfl #[.string ((a0 ++ (⟨#[47]⟩ : ByteArray)) ++ a1), .int .i64 0, .string (⟨#[45]⟩ : ByteArray)] rfl (by (try simp only [List.map_toArray, List.map_cons, List.map_nil]); first | done | rfl | (simp only [List.length_drop, List.length_take]; rfl)) ?_; (with_reducible refine (book_Abbr.calls kj22 ((a0 ++ (⟨#[47]⟩ : ByteArray)) ++ a1) 0 (⟨#[45]⟩ : ByteArray) t131 t132 _ ?side1 A36.out).mono ?_); (case side1 => exact LaidT.sub HLA.out (by repeat (first | (with_reducible first | exact HB.out | apply below_alloc | apply pw_below_drewN | apply below_drew1) | exact HB.out))); rintro e w45 ⟨rfl, hb⟩; refine ⟨_, rfl, ?_⟩; have n0_ := Aside0.mk (below_step (by repeat (first | (with_reducible first | exact HB.out | apply below_alloc | apply pw_below_drewN | apply below_drew1) | exact HB.out)) hb); clear HB; have HB := n0_; clear n0_; (try clear hb); (try clear hb2); (try clear hk); (try clear hi)) | ((with_reducible refine gate_callee (f := 12) rfl ?_); refine goesL_ (some 73) rfl rfl Tryz.func12 (by kernel_rfl) rfl #[.string ((a0 ++ (⟨#[47]⟩ : ByteArray)) ++ a1), .int .i64 (wrap64 (t124 + 1)), .string (⟨#[45]⟩ : ByteArray)] rfl (by (try simp only [List.map_toArray, List.map_cons, List.map_nil]); first | done | rfl | (simp only [List.length_drop, List.length_take]; rfl)) ?_; (with_reducible refine (book_Abbr.calls kj22 ((a0 ++ (⟨#[47]⟩ : ByteArray)) ++ a1) (wrap64 (t124 + 1)) (⟨#[45]⟩ : ByteArray) t133 t134 _ ?side1 A37.out).mono ?_); (case side1 => exact LaidT.sub HLA.out (by repeat (first | (with_reducible first | exact HB.out | apply below_alloc | apply pw_below_drewN | apply below_drew1) | exact HB.out))); rintro e w46 ⟨rfl, hb⟩; refine ⟨_, rfl, ?_⟩; have n0_ := Aside0.mk (below_step (by repeat (first | (with_reducible first | exact HB.out | apply below_alloc | apply pw_below_drewN | apply below_drew1) | exact HB.out)) hb); clear HB; have HB := n0_; clear n0_; (try clear hb); (try clear hb2); (try clear hk); (try clear hi)))
                        go_ret
                        exact ⟨by first | rfl | (simp [errW_none, errW_some] <;> rfl) | (simp [*, errW_none, errW_some] <;> rfl), by repeat (first | (with_reducible first | exact HB.out | apply below_alloc | apply pw_below_drewN | apply below_drew1) | exact HB.out)⟩
                    · rw [if_neg c38] at H
                      have c38b0 : (t132 == 0) = false := beq_eq_false_iff_ne.mpr c38
                      have c38b1 : (t132 != 0) = true := bne_iff_ne.mpr c38
                      obtain rfl := Option.some.inj H
                      go_wp2_with (first | ((with_reducible refine gate_callee (f := 12) rfl ?_); refine goesL_ (some 64) rfl rfl Tryz.func12 (by kernel_rfl) rfl #[.string ((a0 ++ (⟨#[47]⟩ : ByteArray)) ++ a1), .int .i64 0, .string (⟨#[45]⟩ : ByteArray)] rfl (by (try simp only [List.map_toArray, List.map_cons, List.map_nil]); first | done | rfl | (simp only [List.length_drop, List.length_take]; rfl)) ?_; (with_reducible refine (book_Abbr.calls kj22 ((a0 ++ (⟨#[47]⟩ : ByteArray)) ++ a1) 0 (⟨#[45]⟩ : ByteArray) t131 t132 _ ?side1 A36.out).mono ?_); (case side1 => exact LaidT.sub HLA.out (by repeat (first | (with_reducible first | exact HB.out | apply below_alloc | apply pw_below_drewN | apply below_drew1) | exact HB.out))); rintro e w47 ⟨rfl, hb⟩; refine ⟨_, rfl, ?_⟩; have n0_ := Aside0.mk (below_step (by repeat (first | (with_reducible first | exact HB.out | apply below_alloc | apply pw_below_drewN | apply below_drew1) | exact HB.out)) hb); clear HB; have HB := n0_; clear n0_; (try clear hb); (try clear hb2); (try clear hk); (try clear hi)) | ((with_reducible refine gate_callee (f := 12) rfl ?_); refine goesL_ (some 73) rfl rfl Tryz.func12 (by kernel_rfl) rfl #[.string ((a0 ++ (⟨#[47]⟩ : ByteArray)) ++ a1), .int .i64 (wrap64 (t124 + 1)), .string (⟨#[45]⟩ : ByteArray)] rfl (by (try simp only [List.map_toArray, List.map_cons, List.map_nil]); first | done | rfl | (simp only [List.length_drop, List.length_take]; rfl)) ?_; (with_reducible refine (book_Abbr.calls kj22 ((a0 ++ (⟨#[47]⟩ : ByteArray)) ++ a1) (wrap64 (t124 + 1)) (⟨#[45]⟩ : ByteArray) t133 t134 _ ?side1 A37.out).mono ?_); (case side1 => exact LaidT.sub HLA.out (by repeat (first | (with_reducible first | exact HB.out | apply below_alloc | apply pw_below_drewN | apply below_drew1) | exact HB.out))); rintro e w48 ⟨rfl, hb⟩; refine ⟨_, rfl, ?_⟩; have n0_ := Aside0.mk (below_step (by repeat (first | (with_reducible first | exact HB.out | apply below_alloc | apply pw_below_drewN | apply below_drew1) | exact HB.out)) hb); clear HB; have HB := n0_; clear n0_; (try clear hb); (try clear hb2); (try clear hk); (try clear hi)))
                      go_ret
                      exact ⟨by first | rfl | (simp [errW_none, errW_some] <;> rfl) | (simp [*, errW_none, errW_some] <;> rfl), by repeat (first | (with_reducible first | exact HB.out | apply below_alloc | apply pw_below_drewN | apply below_drew1) | exact HB.out)⟩
                  · rw [if_neg c35] at H
                    exact absurd H (by simp)
                · rw [if_neg c34] at H
                  exact absurd H (by simp)
  · replace c6 := Bool.eq_false_iff.mpr c6
    subst c6
    have H1 : (some false) = some r := by rw [if_neg (show ¬ (false = true) by decide)] at H; exact H
    clear H
    have H := H1
    clear H1
    obtain rfl := Option.some.inj H
    go_enter Tryz.func4, Tryz.ntmps4
    go_wp2_with (first | ((with_reducible refine gate_callee (f := 8) rfl ?_); refine goesL_ (some 15) rfl rfl Tryz.func8 (by kernel_rfl) rfl #[] rfl (by (try simp only [List.map_toArray, List.map_cons, List.map_nil]); first | done | rfl | (simp only [List.length_drop, List.length_take]; rfl)) ?_; (with_reducible refine (timeballkeep_booked.calls  false _ ?side1 A5.out).mono ?_); (case side1 => exact LaidT.sub HLA.out (by repeat (first | (with_reducible first | exact HB.out | apply below_alloc | apply pw_below_drewN | apply below_drew1) | exact HB.out))); rintro e w49 ⟨rfl, hb⟩; refine ⟨_, rfl, ?_⟩; have n0_ := Aside0.mk (below_step (by repeat (first | (with_reducible first | exact HB.out | apply below_alloc | apply pw_below_drewN | apply below_drew1) | exact HB.out)) hb); clear HB; have HB := n0_; clear n0_; (try clear hb); (try clear hb2); (try clear hk); (try clear hi)))
    go_ret
    exact ⟨by first | rfl | (simp [errW_none, errW_some] <;> rfl) | (simp [*, errW_none, errW_some] <;> rfl), by repeat (first | (with_reducible first | exact HB.out | apply below_alloc | apply pw_below_drewN | apply below_drew1) | exact HB.out)⟩
end Go.Proofs.YtmgnnplcnmhbaaaGreatDoor.PT
end
